/- The walk of ConfigReaches. -/
import Derived.Test.YtehbabkgaecoaaaRRe
import Derived.Test.YtehbabkgaecoaaaSM
namespace Go.Proofs.Ytehbabkgaecoaaa
set_option linter.unusedVariables false
set_option linter.unusedSimpArgs false
open Go.RowKit Go.Shelf Go.Proofs.YtehbabkgaecoaaaW.PrintWords Go.Proofs.YtehbabkgaecoaaaW.PrintLast

/-- A table of which all is turned ahead of a place. -/
def FA (P : Nat) (M1 MA : List (List Bool)) (i k : Nat) : Prop := ∀ a, a < P → ∀ j, j < P → (MA.getD a []).getD j false = if a < i ∨ a = i ∧ j < k then !(M1.getD a []).getD j false else (M1.getD a []).getD j false
theorem FA.put {P : Nat} {M1 MA : List (List Bool)} {i k : Nat} (h : FA P M1 MA i k) (hi : i < MA.length) (hk : k < (MA.getD i []).length) : FA P M1 (MA.set i ((MA.getD i []).set k (!(M1.getD i []).getD k false))) i (k + 1) := by
  intro a ha j hj
  rw [getD_set2 hi hk]
  by_cases h1 : a = i ∧ j = k
  · obtain ⟨rfl, rfl⟩ := h1
    rw [if_pos ⟨rfl, rfl⟩, if_pos (.inr ⟨rfl, by omega⟩)]
  · rw [if_neg h1, h a ha j hj]
    by_cases h2 : a < i ∨ a = i ∧ j < k
    · rw [if_pos h2, if_pos (by omega)]
    · rw [if_neg h2, if_neg (by omega)]
theorem FA.row {P : Nat} {M1 MA : List (List Bool)} {i : Nat} (h : FA P M1 MA i P) : FA P M1 MA (i + 1) 0 := by
  intro a ha j hj
  rw [h a ha j hj]
  by_cases h2 : a < i ∨ a = i ∧ j < P
  · rw [if_pos h2, if_pos (by omega)]
  · rw [if_neg h2, if_neg (by omega)]
theorem reach_same {C : S29} {M N : List (List Bool)} (h : ReachOk C M) (k : ReachOk C N) {i : Nat} (hi : i < C.f8.length) (j : Nat) : (M.getD i []).getD j false = (N.getD i []).getD j false := by
  rw [Bool.eq_iff_iff, (h.2 i hi).2 j, (k.2 i hi).2 j]
theorem OutI.far {W : World} {lo G P : Nat} {bs : List Nat} {M : List (List Bool)} (h : OutI W lo G P bs M) {g : Nat} (h1 : g ≠ G) (h2 : ∀ (i b : Nat), bs[i]? = some b → b ≠ g) (t : Nat) (v : Value) : OutI (W.setCell ⟨g, t, none⟩ v) lo G P bs M :=
  ⟨blk_far h.blk (p := ⟨g, t, none⟩) (fun e => h1 e.symm) _, h.len, h.le, fun i b hb => ⟨(h.row i b hb).1, (h.row i b hb).2.1, blk_far (h.row i b hb).2.2 (p := ⟨g, t, none⟩) (h2 i b hb) _⟩, h.nodup⟩
theorem infoB : (Try.prog.info? 4).map (fun i => (i.zero, i.size, i.bytes)) = some (some (.bool false), 1, 1) := by kernel_rfl
/-- append of one truth value to a full row: in new memory. -/
theorem app_bool {ops : Array Oper} {rest : List Oper} {o : Oper} {a : Act} {Q : Exit → Act → World → Prop} {W : World} (hgd : o.guard = none) (s x : Operand)
    (ho : o.op = .call { callee := .builtin .append, args := #[s, x], argTypes := #[50, 50] }) (g P : Nat) (l : List Bool) (hl : l.length = P) (hs : a.eval s = .slice (some ⟨g, 0, none⟩) P P) (hx : a.eval x = .slice (some ⟨W.heap.size, 0, none⟩) 1 1)
    (hc : ∀ k, k < P → W.cell? ⟨g, k, none⟩ = (l[k]?).map Value.bool) (hP : P ≤ 1000)
    (hK : ∀ g' c W', W.heap.size ≤ g' → Below W.heap.size W W' → g' < W'.heap.size → (W'.cell? ⟨g', P, none⟩ = some (.bool true)) → (W'.frozen? ⟨g', P, none⟩ = false) → wpList Try.prog ops Q rest (a.put o.dst (.slice (some ⟨g', 0, none⟩) (P + 1) c)) W') :
    wpList Try.prog ops Q (o :: rest) a (W.alloc (.cells #[.bool true] 4)) := by
  obtain ⟨i0, hi, hzz⟩ := Option.map_eq_some_iff.1 infoB
  simp only [Prod.mk.injEq] at hzz
  obtain ⟨hz0, hz1, hz2⟩ := hzz
  have hba : Below W.heap.size W (W.alloc (.cells #[.bool true] 4)) := (Below.refl _ _).alloc (Nat.le_refl _) _
  refine wpList_append_grows _ hgd s x 50 ho 4 i0 (.bool false) 1 1 Try.underlying50 hi hz0 hz1 hz2 rfl (by omega) (some ⟨g, 0, none⟩) P P (l.map Value.bool) hs (by simp) (by simp [hl]) (fun b hb j u hu => ?_)
    ⟨W.heap.size, 0, none⟩ 1 1 [.bool true] hx rfl (by simpa using World.news_of_block (cs := #[.bool true]) (heap_alloc_new W _)) (by simp [Value.oneCell']) (by omega) (by simp only [maxLen]; omega) (by omega) ?_
  · cases hb
    have hj : j < P := by have := (List.getElem?_eq_some_iff.1 hu).1; rw [List.length_map] at this; omega
    have := hc j hj
    rw [List.getElem?_map] at hu
    rw [hu] at this
    have e : (⟨g, 0, none⟩ : Addr).add j = ⟨g, j, none⟩ := by unfold Addr.add; split <;> simp_all
    rw [e]
    exact (hba.cell (World.block_lt_of_cell? _ _ this)).trans this
  · intro v' w' hown hg
    have hown' := own_lower hown (base' := W.heap.size) (by rw [World.size_alloc]; omega)
    have hR : Kd.R Kd.bool 4 w' W.heap.size (fun _ => True) v' (l ++ [true]) := Kd.R_of_own (enc := Value.bool) (h1 := fun _ => rfl) (by simpa [encs, hl] using hown') (fun _ _ => trivial)
    obtain ⟨g', cap, hv, hbg, hlt, cells, hcb⟩ := Kd.R_form hR (by simp)
    rw [List.length_append, List.length_singleton, hl] at hv
    subst hv
    have hR' : Kd.R Kd.bool 4 w' W.heap.size (fun _ => True) (.slice (some ⟨g', 0, none⟩) (l ++ [true]).length cap) (l ++ [true]) := by rw [List.length_append, List.length_singleton, hl]; exact hR
    have hq := Kd.R_cell (enc := Value.bool) (h1 := fun _ => rfl) false hR' (P : Int) (by omega) (by rw [List.length_append, List.length_singleton, hl]; omega)
    rw [Int.toNat_natCast] at hq
    refine hK g' cap w' hbg ((hba.grown hg (by rw [World.size_alloc]; omega) (fun k e => by cases e))) hlt ?_ hq.2
    rw [hq.1]
    simp [rdOf, ← hl]
def Z0 : S29 := ⟨0, [], 0, 0, 0, 0, 0, 0, [], [], [], []⟩
theorem z0_check : checkN Z0 = 21 := by decide +kernel
set_option maxRecDepth 100000 in
set_option maxHeartbeats 32000000 in
theorem reaches_calls (w : World) (A1 A8 A9 A10 A11 : Option Addr) (c1 c8 c9 c10 c11 : Nat) (C : S29) (h : CfgIn w C A1 A8 A9 A10 A11 c1 c8 c9 c10 c11) (_hC : CfgOk C) (hz : SzOk C) :
    Calls Try.prog 6 #[.agg #[.int .i64 C.f0, .slice A1 C.f1.length c1, .int .i64 C.f2, .int .i64 C.f3, .int .i64 C.f4, .int .i64 C.f5, .int .i64 C.f6, .int .i64 C.f7, .slice A8 C.f8.length c8, .slice A9 C.f9.length c9, .slice A10 C.f10.length c10, .slice A11 C.f11.length c11]] w fun e w' => e = .returned (.bool true) ∧ Below w.heap.size w w' := by
  have HR := Lib.hid h
  have HZ := Lib.hid hz
  have HB := Lib.hid (show Below w.heap.size w (w.alloc (Obj.cells #[.int .i64 C.f0, .slice A1 C.f1.length c1, .int .i64 C.f2, .int .i64 C.f3, .int .i64 C.f4, .int .i64 C.f5, .int .i64 C.f6, .int .i64 C.f7, .slice A8 C.f8.length c8, .slice A9 C.f9.length c9, .slice A10 C.f10.length c10, .slice A11 C.f11.length c11] 29)) from (Below.refl _ _).alloc (Nat.le_refl _) _)
  have H0 := Lib.hid (blk_new w (o := (Obj.cells #[.int .i64 C.f0, .slice A1 C.f1.length c1, .int .i64 C.f2, .int .i64 C.f3, .int .i64 C.f4, .int .i64 C.f5, .int .i64 C.f6, .int .i64 C.f7, .slice A8 C.f8.length c8, .slice A9 C.f9.length c9, .slice A10 C.f10.length c10, .slice A11 C.f11.length c11] 29)))
  clear h hz _hC
  go_enter Try.func6, Try.ntmps6
  obtain ⟨k0, k1, k2, k3, k4, k5, k6, k7, k8, k9, k10, k11⟩ := cfg_cells H0.out
  obtain ⟨gr, hgr⟩ : ∃ gr, gr = greatB C := ⟨_, rfl⟩
  have HG := Lib.hid hgr
  clear hgr
  go_wp2_with fail
  refine (great_calls _ _ _ _ _ _ _ _ _ _ C _ (HR.out.below HB.out)).mono ?_
  rintro e u ⟨rfl, hb⟩
  clear k0 k1 k2 k3 k4 k5 k6 k7 k8 k9 k10 k11
  replace H0 := Lib.hid (blk_keep hb H0.out)
  replace HB := Lib.hid (below_step HB.out hb)
  clear hb
  obtain ⟨k0, k1, k2, k3, k4, k5, k6, k7, k8, k9, k10, k11⟩ := cfg_cells H0.out
  rw [← HG.out]
  cases gr
  case true =>
    go_wp2
    go_ret
    exact ⟨rfl, HB.out⟩
  obtain ⟨g1, g2, g3, g4, -, -⟩ := great_facts HG.out.symm HZ.out
  go_wp2_with fail
  refine (twin_calls _ _ _ _ _ _ _ _ _ _ C _ (HR.out.below HB.out) HZ.out).mono ?_
  rintro e W1 ⟨B1, B8, B9, B10, B11, d1, d8, d9, d10, d11, rfl, hin, hb⟩
  clear k0 k1 k2 k3 k4 k5 k6 k7 k8 k9 k10 k11
  have hba : Below W1.heap.size W1 (W1.alloc (Obj.cells #[.int .i64 C.f0, .slice B1 C.f1.length d1, .int .i64 C.f2, .int .i64 C.f3, .int .i64 C.f4, .int .i64 C.f5, .int .i64 C.f6, .int .i64 C.f7, .slice B8 C.f8.length d8, .slice B9 C.f9.length d9, .slice B10 C.f10.length d10, .slice B11 C.f11.length d11] 29)) := (Below.refl _ _).alloc (Nat.le_refl _) _
  replace H0 := Lib.hid (blk_keep hba (blk_keep hb H0.out))
  replace HB := Lib.hid (below_step (below_step HB.out hb) hba)
  have HD := Lib.hid (blk_new W1 (Obj.cells #[.int .i64 C.f0, .slice B1 C.f1.length d1, .int .i64 C.f2, .int .i64 C.f3, .int .i64 C.f4, .int .i64 C.f5, .int .i64 C.f6, .int .i64 C.f7, .slice B8 C.f8.length d8, .slice B9 C.f9.length d9, .slice B10 C.f10.length d10, .slice B11 C.f11.length d11] 29))
  have HI := Lib.hid (hin.below hba)
  clear hb hba hin
  obtain ⟨k0, k1, k2, k3, k4, k5, k6, k7, k8, k9, k10, k11⟩ := cfg_cells H0.out
  go_wp2_with fail
  generalize hV0 : W1.alloc _ = V0 at *
  generalize W1.heap.size = ob at *
  clear hV0
  refine (rreach_calls _ _ _ _ _ _ _ _ _ _ C _ (HR.out.below HB.out) (by omega) (by omega)).mono ?_
  rintro e W2 ⟨G1, lo1, bs1, M1, rfl, hG1, hl1, hO1, hbl1, hOK1, hb⟩
  clear k0 k1 k2 k3 k4 k5 k6 k7 k8 k9 k10 k11
  replace H0 := Lib.hid (blk_keep hb H0.out)
  replace HD := Lib.hid (blk_keep hb HD.out)
  replace HI := Lib.hid (HI.out.below hb)
  replace HB := Lib.hid (below_step HB.out hb)
  have HO1 := Lib.hid hO1
  have HL1 := Lib.hid hbl1
  have HK1 := Lib.hid hOK1
  have HG1 := Lib.hid hl1
  clear hb hO1 hbl1 hOK1 hG1 hl1
  obtain ⟨k0, k1, k2, k3, k4, k5, k6, k7, k8, k9, k10, k11⟩ := cfg_cells HD.out
  unfold slV
  go_wp2_with fail
  refine (reach_calls B1 B8 B9 B10 B11 d1 d8 d9 d10 d11 C _ HI.out (by omega) (by omega)).mono ?_
  rintro e W3 ⟨G2, lo2, bs2, M2, rfl, hG2, hl2, hO2, hbl2, hOK2, hb⟩
  clear k0 k1 k2 k3 k4 k5 k6 k7 k8 k9 k10 k11
  have hws := HB.out.size
  have HS12 := Lib.hid (show G1 < G2 ∧ ∀ i b, bs1[i]? = some b → b < G2 from ⟨by have := blk_lt HO1.out.blk; omega, fun i b hib => by have := blk_lt (HO1.out.row i b hib).2.2; omega⟩)
  replace H0 := Lib.hid (blk_keep hb H0.out)
  replace HD := Lib.hid (blk_keep hb HD.out)
  replace HI := Lib.hid (HI.out.below hb)
  replace HB := Lib.hid (below_step HB.out hb)
  replace HO1 := Lib.hid (HO1.out.below hb)
  have HO2 := Lib.hid hO2
  have HL2 := Lib.hid hbl2
  have HK2 := Lib.hid hOK2
  have HG2 := Lib.hid hl2
  have HWG2 := Lib.hid (show w.heap.size ≤ G2 from Nat.le_trans hws hG2)
  clear hb hO2 hbl2 hOK2 hG2 hl2 hws
  obtain ⟨k0, k1, k2, k3, k4, k5, k6, k7, k8, k9, k10, k11⟩ := cfg_cells HD.out
  unfold slV
  go_wp2_with fail
  refine (reach_calls B1 B8 B9 B10 B11 d1 d8 d9 d10 d11 C _ HI.out (by omega) (by omega)).mono ?_
  rintro e W4 ⟨G3, lo3, bs3, M3, rfl, hG3, hl3, hO3, hbl3, hOK3, hb⟩
  clear k0 k1 k2 k3 k4 k5 k6 k7 k8 k9 k10 k11
  have HS23 := Lib.hid (show G2 < G3 ∧ ∀ i b, bs2[i]? = some b → b < G3 from ⟨by have := blk_lt HO2.out.blk; omega, fun i b hib => by have := blk_lt (HO2.out.row i b hib).2.2; omega⟩)
  replace H0 := Lib.hid (blk_keep hb H0.out)
  replace HD := Lib.hid (blk_keep hb HD.out)
  replace HI := Lib.hid (HI.out.below hb)
  replace HB := Lib.hid (below_step HB.out hb)
  replace HO1 := Lib.hid (HO1.out.below hb)
  replace HO2 := Lib.hid (HO2.out.below hb)
  have HO3 := Lib.hid hO3
  have HL3 := Lib.hid hbl3
  have HK3 := Lib.hid hOK3
  have HG3 := Lib.hid hl3
  clear hb hO3 hbl3 hOK3 hG3 hl3
  obtain ⟨k0, k1, k2, k3, k4, k5, k6, k7, k8, k9, k10, k11⟩ := cfg_cells HD.out
  obtain ⟨m0, m1, m2, m3, m4, m5, m6, m7, m8, m9, m10, m11⟩ := cfg_cells H0.out
  unfold slV
  go_wp2_with fail
  refine (same_calls B1 B8 B9 B10 B11 d1 d8 d9 d10 d11 _ _ _ _ _ _ _ _ _ _ C _ HI.out (HR.out.below HB.out)).mono ?_
  rintro e W5 ⟨rfl, hb⟩
  clear k0 k1 k2 k3 k4 k5 k6 k7 k8 k9 k10 k11 m0 m1 m2 m3 m4 m5 m6 m7 m8 m9 m10 m11
  replace HB := Lib.hid (below_step HB.out hb)
  replace HO1 := Lib.hid (HO1.out.below hb)
  replace HO2 := Lib.hid (HO2.out.below hb)
  replace HO3 := Lib.hid (HO3.out.below hb)
  clear hb H0 HD HI
  have HFA := Lib.hid (show FA C.f8.length M1 M2 0 0 from fun a ha j hj => by rw [if_neg (by omega)]; exact reach_same HK2.out HK1.out ha j)
  have HE3 := Lib.hid (show ∀ i, i < C.f8.length → ∀ j, (M3.getD i []).getD j false = (M1.getD i []).getD j false from fun i hi j => reach_same HK3.out HK1.out hi j)
  clear HK1 HK2 HK3
  go_wp2_with fail
  go_loopw [7] (fun v wr => ∃ (i : Nat) (MA : List (List Bool)), i ≤ C.f8.length ∧ v = .int .i64 i ∧ Hid (FA C.f8.length M1 MA i 0) ∧ Hid (OutI wr lo1 G1 C.f8.length bs1 M1) ∧ Hid (OutI wr lo2 G2 C.f8.length bs2 MA) ∧ Hid (OutI wr lo3 G3 C.f8.length bs3 M3) ∧ Hid (Below w.heap.size w wr)) (fun v _ => C.f8.length - (intOf v).toNat)
  case atStart => exact ⟨0, M2, by omega, rfl, HFA, HO1, HO2, HO3, HB⟩
  case round =>
    clear HFA HO1 HO2 HO3 HB
    obtain ⟨i, MA, hi, rfl, HFA, HO1, HO2, HO3, HB⟩ := hrel
    by_cases hit : i < C.f8.length
    · obtain ⟨b2, hb2, a1, a2, a3, a4⟩ := HO2.out.at2 HL2.out hit
      obtain ⟨b3, hb3, c1, c2, c3, c4⟩ := HO3.out.at2 HL3.out hit
      clear a2 a3 a4 c2 c3 c4 hb2 hb3
      go_wp2_with fail
      clear a1 c1
      go_loopw [8] (fun v wr => ∃ (k : Nat) (MA : List (List Bool)), k ≤ C.f8.length ∧ v = .int .i64 k ∧ Hid (FA C.f8.length M1 MA i k) ∧ Hid (OutI wr lo1 G1 C.f8.length bs1 M1) ∧ Hid (OutI wr lo2 G2 C.f8.length bs2 MA) ∧ Hid (OutI wr lo3 G3 C.f8.length bs3 M3) ∧ Hid (Below w.heap.size w wr)) (fun v _ => C.f8.length - (intOf v).toNat)
      case atStart => exact ⟨0, MA, by omega, rfl, HFA, HO1, HO2, HO3, HB⟩
      case round =>
        clear HFA HO1 HO2 HO3 HB MA
        obtain ⟨k, MA, hk, rfl, HFA, HO1, HO2, HO3, HB⟩ := hrel
        obtain ⟨WK, rfl⟩ : ∃ W : World, W = wr := ⟨_, rfl⟩
        by_cases hkt : k < C.f8.length
        · obtain ⟨x, hx⟩ : ∃ x, x = (M1.getD i []).getD k false := ⟨_, rfl⟩
          obtain ⟨b1, hb1, w1, w2', w3', w4'⟩ := HO1.out.at2 HL1.out hit
          obtain ⟨b2, hb2, c1, a2, a3, a4⟩ := HO2.out.at2 HL2.out hit
          have w2 := w2' k hkt
          have c2 := a2 k hkt
          have c6 := a3 k
          rw [HFA.out i hit k hkt, if_neg (by omega), ← hx] at c2
          rw [← hx] at w2
          have HFN := Lib.hid (show FA C.f8.length M1 (MA.set i ((MA.getD i []).set k (!x))) i (k + 1) from by
            rw [hx]; exact HFA.out.put (by rw [← HO2.out.len, HL2.out]; exact hit) (by rw [a4]; exact hkt))
          have HB2 := Lib.hid hb2
          have HNE := Lib.hid (show b2 ≠ G1 ∧ (∀ (i b : Nat), bs1[i]? = some b → b ≠ b2) ∧ b2 ≠ G3 ∧ (∀ (i b : Nat), bs3[i]? = some b → b ≠ b2) ∧ w.heap.size ≤ b2 from by
            have h2 := (HO2.out.row i b2 hb2).1
            have h3 := HS23.out.2 i b2 hb2
            have h4 := HG2.out
            have h5 := HS12.out.1
            have h6 := HWG2.out
            have h7 := HG3.out
            refine ⟨by omega, fun i' b' h => ?_, by omega, fun i' b' h => ?_, by omega⟩
            · have := HS12.out.2 i' b' h; omega
            · have := (HO3.out.row i' b' h).1; omega)
          clear hx w2' w3' w4' a2 a3 a4 hb1 hb2
          cases x
          · go_wp2_with fail
            go_quiet (fail)
            go_wp2_with fail
            generalize hWD : WK.drewN _ = WD
            have hbd : Below WK.heap.size WK WD := by rw [← hWD]; exact pw_below_drewN (Below.refl _ _) _
            clear hWD
            replace HO1 := Lib.hid (HO1.out.below hbd)
            replace HO2 := Lib.hid (HO2.out.below hbd)
            replace HO3 := Lib.hid (HO3.out.below hbd)
            replace HB := Lib.hid (below_step HB.out hbd)
            have w1 := (hbd.cell (World.block_lt_of_cell? _ _ w1)).trans w1
            have w2 := (hbd.cell (World.block_lt_of_cell? _ _ w2)).trans w2
            have c6 := (hbd.frozen (World.block_lt_of_cell? _ _ c2)).trans c6
            have c1 := (hbd.cell (World.block_lt_of_cell? _ _ c1)).trans c1
            have c2 := (hbd.cell (World.block_lt_of_cell? _ _ c2)).trans c2
            clear hbd
            apply region_y (fun w' => ∃ Wd, Bz WD Wd ∧ w' = Wd.setCell ⟨b2, k, none⟩ (.bool true)) (N := 15) (ds := [14]) #[false, false, false, false, false, false, false, false, false, false, false, false, false, false, false]
            · kernel_rfl
            · rfl
            · rfl
            · intro Wd hS
              refine pure_ (i := 0) (N := some 85) (v := ?_) (a' := ?_) #[true, false, false, false, false, false, false, false, false, false, false, false, false, false, false] rfl rfl (by kernel_rfl) (fun _ _ _ h => by cases h.1) (Or.inl ⟨by rfl, ?_⟩) ?_ ?_
              rotate_left
              · intro w'
                go_simp
                with_reducible rfl
              rotate_left
              · simp only [Act.put, List.setIfInBounds_toArray, List.set_cons_zero, List.set_cons_succ]
                rfl
              refine pure_ (i := 1) (N := some 86) (v := ?_) (a' := ?_) #[true, true, false, false, false, false, false, false, false, false, false, false, false, false, false] rfl rfl (by kernel_rfl) (fun _ _ _ h => by cases h.1) (Or.inl ⟨by rfl, ?_⟩) ?_ ?_
              rotate_left
              · intro w'
                go_simp
                with_reducible rfl
              rotate_left
              · simp only [Act.put, List.setIfInBounds_toArray, List.set_cons_zero, List.set_cons_succ]
                rfl
              refine pure_ (i := 2) (N := some 87) (v := ?_) (a' := ?_) #[true, true, true, false, false, false, false, false, false, false, false, false, false, false, false] rfl rfl (by kernel_rfl) (fun _ _ _ h => by cases h.1) (Or.inl ⟨by rfl, ?_⟩) ?_ ?_
              rotate_left
              · intro w'
                go_simp
                with_reducible rfl
              rotate_left
              · simp only [Act.put, List.setIfInBounds_toArray, List.set_cons_zero, List.set_cons_succ]
                rfl
              refine take_ (i := 3) (N := some 88) (v := ?_) (a' := ?_) #[true, true, true, true, false, false, false, false, false, false, false, false, false, false, false] rfl rfl (by kernel_rfl) (fun _ _ _ h => by cases h.1) (Or.inl ⟨by rfl, ?_⟩) hS ?_ ?_
              rotate_left
              · intro w' hb
                have s0 := hb.cell c1
                go_simp
                with_reducible rfl
              rotate_left
              · simp only [Act.put, List.setIfInBounds_toArray, List.set_cons_zero, List.set_cons_succ]
                rfl
              refine pure_ (i := 4) (N := some 89) (v := ?_) (a' := ?_) #[true, true, true, true, true, false, false, false, false, false, false, false, false, false, false] rfl rfl (by kernel_rfl) (fun _ _ _ h => by cases h.1) (Or.inl ⟨by rfl, ?_⟩) ?_ ?_
              rotate_left
              · intro w'
                go_simp
                with_reducible rfl
              rotate_left
              · simp only [Act.put, List.setIfInBounds_toArray, List.set_cons_zero, List.set_cons_succ]
                rfl
              refine pure_ (i := 5) (N := some 90) (v := ?_) (a' := ?_) #[true, true, true, true, true, true, false, false, false, false, false, false, false, false, false] rfl rfl (by kernel_rfl) (fun _ _ _ h => by cases h.1) (Or.inl ⟨by rfl, ?_⟩) ?_ ?_
              rotate_left
              · intro w'
                go_simp
                with_reducible rfl
              rotate_left
              · simp only [Act.put, List.setIfInBounds_toArray, List.set_cons_zero, List.set_cons_succ]
                rfl
              refine pure_ (i := 6) (N := some 91) (v := ?_) (a' := ?_) #[true, true, true, true, true, true, true, false, false, false, false, false, false, false, false] rfl rfl (by kernel_rfl) (fun _ _ _ h => by cases h.1) (Or.inl ⟨by rfl, ?_⟩) ?_ ?_
              rotate_left
              · intro w'
                go_simp
                with_reducible rfl
              rotate_left
              · simp only [Act.put, List.setIfInBounds_toArray, List.set_cons_zero, List.set_cons_succ]
                rfl
              refine pure_ (i := 7) (N := some 92) (v := ?_) (a' := ?_) #[true, true, true, true, true, true, true, true, false, false, false, false, false, false, false] rfl rfl (by kernel_rfl) (fun _ _ _ h => by cases h.1) (Or.inl ⟨by rfl, ?_⟩) ?_ ?_
              rotate_left
              · intro w'
                go_simp
                with_reducible rfl
              rotate_left
              · simp only [Act.put, List.setIfInBounds_toArray, List.set_cons_zero, List.set_cons_succ]
                rfl
              refine take_ (i := 8) (N := some 93) (v := ?_) (a' := ?_) #[true, true, true, true, true, true, true, true, true, false, false, false, false, false, false] rfl rfl (by kernel_rfl) (fun _ _ _ h => by cases h.1) (Or.inl ⟨by rfl, ?_⟩) hS ?_ ?_
              rotate_left
              · intro w' hb
                have s0 := hb.cell w1
                go_simp
                with_reducible rfl
              rotate_left
              · simp only [Act.put, List.setIfInBounds_toArray, List.set_cons_zero, List.set_cons_succ]
                rfl
              refine pure_ (i := 9) (N := some 94) (v := ?_) (a' := ?_) #[true, true, true, true, true, true, true, true, true, true, false, false, false, false, false] rfl rfl (by kernel_rfl) (fun _ _ _ h => by cases h.1) (Or.inl ⟨by rfl, ?_⟩) ?_ ?_
              rotate_left
              · intro w'
                go_simp
                with_reducible rfl
              rotate_left
              · simp only [Act.put, List.setIfInBounds_toArray, List.set_cons_zero, List.set_cons_succ]
                rfl
              refine pure_ (i := 10) (N := some 95) (v := ?_) (a' := ?_) #[true, true, true, true, true, true, true, true, true, true, true, false, false, false, false] rfl rfl (by kernel_rfl) (fun _ _ _ h => by cases h.1) (Or.inl ⟨by rfl, ?_⟩) ?_ ?_
              rotate_left
              · intro w'
                go_simp
                with_reducible rfl
              rotate_left
              · simp only [Act.put, List.setIfInBounds_toArray, List.set_cons_zero, List.set_cons_succ]
                rfl
              refine take_ (i := 11) (N := some 96) (v := ?_) (a' := ?_) #[true, true, true, true, true, true, true, true, true, true, true, true, false, false, false] rfl rfl (by kernel_rfl) (fun _ _ _ h => by cases h.1) (Or.inl ⟨by rfl, ?_⟩) hS ?_ ?_
              rotate_left
              · intro w' hb
                have s0 := hb.cell w2
                go_simp
                with_reducible rfl
              rotate_left
              · simp only [Act.put, List.setIfInBounds_toArray, List.set_cons_zero, List.set_cons_succ]
                rfl
              refine pure_ (i := 12) (N := some 97) (v := ?_) (a' := ?_) #[true, true, true, true, true, true, true, true, true, true, true, true, true, false, false] rfl rfl (by kernel_rfl) (fun _ _ _ h => by cases h.1) (Or.inl ⟨by rfl, ?_⟩) ?_ ?_
              rotate_left
              · intro w'
                go_simp
                with_reducible rfl
              rotate_left
              · simp only [Act.put, List.setIfInBounds_toArray, List.set_cons_zero, List.set_cons_succ]
                rfl
              refine pure_ (i := 13) (N := some 98) (v := ?_) (a' := ?_) #[true, true, true, true, true, true, true, true, true, true, true, true, true, true, false] rfl rfl (by kernel_rfl) (fun _ _ _ h => by cases h.1) (Or.inl ⟨by rfl, ?_⟩) ?_ ?_
              rotate_left
              · intro w'
                go_simp
                with_reducible rfl
              rotate_left
              · simp only [Act.put, List.setIfInBounds_toArray, List.set_cons_zero, List.set_cons_succ]
                rfl
              refine last_ (i := 14) (N := none) #[true, true, true, true, true, true, true, true, true, true, true, true, true, true, true] rfl rfl (by kernel_rfl) (by simp) (fun K hK => ?_)
              have s4 := hS.cell c2
              have s6 := hS.frozen c2 c6
              go_simp
              refine hK.out _ _ ?_
              refine done_ (by kernel_rfl) ?_
              exact ⟨rfl, rfl, Wd, hS, rfl⟩
            rintro _ ⟨Wd, hbd, rfl⟩
            have HN1 := Lib.hid ((HO1.out.below hbd).far HNE.out.1 HNE.out.2.1 k (.bool true))
            have HN3 := Lib.hid ((HO3.out.below hbd).far HNE.out.2.2.1 HNE.out.2.2.2.1 k (.bool true))
            have HN2 := Lib.hid ((HO2.out.below hbd).put HG2.out HB2.out k true)
            have HBn := Lib.hid ((below_step HB.out hbd).setCell (p := ⟨b2, k, none⟩) HNE.out.2.2.2.2 (.bool true))
            clear hbd c1 c2 c6 w1 w2
            go_wp2_with fail
            go_roundw
            case rel => exact ⟨k + 1, _, by omega, by go_num, HFN, HN1, HN2, HN3, HBn⟩
            case measure => simp [intOf]; omega
          · go_wp2_with fail
            go_quiet (fail)
            go_wp2_with fail
            generalize hWD : WK.drewN _ = WD
            have hbd : Below WK.heap.size WK WD := by rw [← hWD]; exact pw_below_drewN (Below.refl _ _) _
            clear hWD
            replace HO1 := Lib.hid (HO1.out.below hbd)
            replace HO2 := Lib.hid (HO2.out.below hbd)
            replace HO3 := Lib.hid (HO3.out.below hbd)
            replace HB := Lib.hid (below_step HB.out hbd)
            have w1 := (hbd.cell (World.block_lt_of_cell? _ _ w1)).trans w1
            have w2 := (hbd.cell (World.block_lt_of_cell? _ _ w2)).trans w2
            have c6 := (hbd.frozen (World.block_lt_of_cell? _ _ c2)).trans c6
            have c1 := (hbd.cell (World.block_lt_of_cell? _ _ c1)).trans c1
            have c2 := (hbd.cell (World.block_lt_of_cell? _ _ c2)).trans c2
            clear hbd
            apply region_y (fun w' => ∃ Wd, Bz WD Wd ∧ w' = Wd.setCell ⟨b2, k, none⟩ (.bool false)) (N := 15) (ds := [14]) #[false, false, false, false, false, false, false, false, false, false, false, false, false, false, false]
            · kernel_rfl
            · rfl
            · rfl
            · intro Wd hS
              refine pure_ (i := 0) (N := some 85) (v := ?_) (a' := ?_) #[true, false, false, false, false, false, false, false, false, false, false, false, false, false, false] rfl rfl (by kernel_rfl) (fun _ _ _ h => by cases h.1) (Or.inl ⟨by rfl, ?_⟩) ?_ ?_
              rotate_left
              · intro w'
                go_simp
                with_reducible rfl
              rotate_left
              · simp only [Act.put, List.setIfInBounds_toArray, List.set_cons_zero, List.set_cons_succ]
                rfl
              refine pure_ (i := 1) (N := some 86) (v := ?_) (a' := ?_) #[true, true, false, false, false, false, false, false, false, false, false, false, false, false, false] rfl rfl (by kernel_rfl) (fun _ _ _ h => by cases h.1) (Or.inl ⟨by rfl, ?_⟩) ?_ ?_
              rotate_left
              · intro w'
                go_simp
                with_reducible rfl
              rotate_left
              · simp only [Act.put, List.setIfInBounds_toArray, List.set_cons_zero, List.set_cons_succ]
                rfl
              refine pure_ (i := 2) (N := some 87) (v := ?_) (a' := ?_) #[true, true, true, false, false, false, false, false, false, false, false, false, false, false, false] rfl rfl (by kernel_rfl) (fun _ _ _ h => by cases h.1) (Or.inl ⟨by rfl, ?_⟩) ?_ ?_
              rotate_left
              · intro w'
                go_simp
                with_reducible rfl
              rotate_left
              · simp only [Act.put, List.setIfInBounds_toArray, List.set_cons_zero, List.set_cons_succ]
                rfl
              refine take_ (i := 3) (N := some 88) (v := ?_) (a' := ?_) #[true, true, true, true, false, false, false, false, false, false, false, false, false, false, false] rfl rfl (by kernel_rfl) (fun _ _ _ h => by cases h.1) (Or.inl ⟨by rfl, ?_⟩) hS ?_ ?_
              rotate_left
              · intro w' hb
                have s0 := hb.cell c1
                go_simp
                with_reducible rfl
              rotate_left
              · simp only [Act.put, List.setIfInBounds_toArray, List.set_cons_zero, List.set_cons_succ]
                rfl
              refine pure_ (i := 4) (N := some 89) (v := ?_) (a' := ?_) #[true, true, true, true, true, false, false, false, false, false, false, false, false, false, false] rfl rfl (by kernel_rfl) (fun _ _ _ h => by cases h.1) (Or.inl ⟨by rfl, ?_⟩) ?_ ?_
              rotate_left
              · intro w'
                go_simp
                with_reducible rfl
              rotate_left
              · simp only [Act.put, List.setIfInBounds_toArray, List.set_cons_zero, List.set_cons_succ]
                rfl
              refine pure_ (i := 5) (N := some 90) (v := ?_) (a' := ?_) #[true, true, true, true, true, true, false, false, false, false, false, false, false, false, false] rfl rfl (by kernel_rfl) (fun _ _ _ h => by cases h.1) (Or.inl ⟨by rfl, ?_⟩) ?_ ?_
              rotate_left
              · intro w'
                go_simp
                with_reducible rfl
              rotate_left
              · simp only [Act.put, List.setIfInBounds_toArray, List.set_cons_zero, List.set_cons_succ]
                rfl
              refine pure_ (i := 6) (N := some 91) (v := ?_) (a' := ?_) #[true, true, true, true, true, true, true, false, false, false, false, false, false, false, false] rfl rfl (by kernel_rfl) (fun _ _ _ h => by cases h.1) (Or.inl ⟨by rfl, ?_⟩) ?_ ?_
              rotate_left
              · intro w'
                go_simp
                with_reducible rfl
              rotate_left
              · simp only [Act.put, List.setIfInBounds_toArray, List.set_cons_zero, List.set_cons_succ]
                rfl
              refine pure_ (i := 7) (N := some 92) (v := ?_) (a' := ?_) #[true, true, true, true, true, true, true, true, false, false, false, false, false, false, false] rfl rfl (by kernel_rfl) (fun _ _ _ h => by cases h.1) (Or.inl ⟨by rfl, ?_⟩) ?_ ?_
              rotate_left
              · intro w'
                go_simp
                with_reducible rfl
              rotate_left
              · simp only [Act.put, List.setIfInBounds_toArray, List.set_cons_zero, List.set_cons_succ]
                rfl
              refine take_ (i := 8) (N := some 93) (v := ?_) (a' := ?_) #[true, true, true, true, true, true, true, true, true, false, false, false, false, false, false] rfl rfl (by kernel_rfl) (fun _ _ _ h => by cases h.1) (Or.inl ⟨by rfl, ?_⟩) hS ?_ ?_
              rotate_left
              · intro w' hb
                have s0 := hb.cell w1
                go_simp
                with_reducible rfl
              rotate_left
              · simp only [Act.put, List.setIfInBounds_toArray, List.set_cons_zero, List.set_cons_succ]
                rfl
              refine pure_ (i := 9) (N := some 94) (v := ?_) (a' := ?_) #[true, true, true, true, true, true, true, true, true, true, false, false, false, false, false] rfl rfl (by kernel_rfl) (fun _ _ _ h => by cases h.1) (Or.inl ⟨by rfl, ?_⟩) ?_ ?_
              rotate_left
              · intro w'
                go_simp
                with_reducible rfl
              rotate_left
              · simp only [Act.put, List.setIfInBounds_toArray, List.set_cons_zero, List.set_cons_succ]
                rfl
              refine pure_ (i := 10) (N := some 95) (v := ?_) (a' := ?_) #[true, true, true, true, true, true, true, true, true, true, true, false, false, false, false] rfl rfl (by kernel_rfl) (fun _ _ _ h => by cases h.1) (Or.inl ⟨by rfl, ?_⟩) ?_ ?_
              rotate_left
              · intro w'
                go_simp
                with_reducible rfl
              rotate_left
              · simp only [Act.put, List.setIfInBounds_toArray, List.set_cons_zero, List.set_cons_succ]
                rfl
              refine take_ (i := 11) (N := some 96) (v := ?_) (a' := ?_) #[true, true, true, true, true, true, true, true, true, true, true, true, false, false, false] rfl rfl (by kernel_rfl) (fun _ _ _ h => by cases h.1) (Or.inl ⟨by rfl, ?_⟩) hS ?_ ?_
              rotate_left
              · intro w' hb
                have s0 := hb.cell w2
                go_simp
                with_reducible rfl
              rotate_left
              · simp only [Act.put, List.setIfInBounds_toArray, List.set_cons_zero, List.set_cons_succ]
                rfl
              refine pure_ (i := 12) (N := some 97) (v := ?_) (a' := ?_) #[true, true, true, true, true, true, true, true, true, true, true, true, true, false, false] rfl rfl (by kernel_rfl) (fun _ _ _ h => by cases h.1) (Or.inl ⟨by rfl, ?_⟩) ?_ ?_
              rotate_left
              · intro w'
                go_simp
                with_reducible rfl
              rotate_left
              · simp only [Act.put, List.setIfInBounds_toArray, List.set_cons_zero, List.set_cons_succ]
                rfl
              refine pure_ (i := 13) (N := some 98) (v := ?_) (a' := ?_) #[true, true, true, true, true, true, true, true, true, true, true, true, true, true, false] rfl rfl (by kernel_rfl) (fun _ _ _ h => by cases h.1) (Or.inl ⟨by rfl, ?_⟩) ?_ ?_
              rotate_left
              · intro w'
                go_simp
                with_reducible rfl
              rotate_left
              · simp only [Act.put, List.setIfInBounds_toArray, List.set_cons_zero, List.set_cons_succ]
                rfl
              refine last_ (i := 14) (N := none) #[true, true, true, true, true, true, true, true, true, true, true, true, true, true, true] rfl rfl (by kernel_rfl) (by simp) (fun K hK => ?_)
              have s4 := hS.cell c2
              have s6 := hS.frozen c2 c6
              go_simp
              refine hK.out _ _ ?_
              refine done_ (by kernel_rfl) ?_
              exact ⟨rfl, rfl, Wd, hS, rfl⟩
            rintro _ ⟨Wd, hbd, rfl⟩
            have HN1 := Lib.hid ((HO1.out.below hbd).far HNE.out.1 HNE.out.2.1 k (.bool false))
            have HN3 := Lib.hid ((HO3.out.below hbd).far HNE.out.2.2.1 HNE.out.2.2.2.1 k (.bool false))
            have HN2 := Lib.hid ((HO2.out.below hbd).put HG2.out HB2.out k false)
            have HBn := Lib.hid ((below_step HB.out hbd).setCell (p := ⟨b2, k, none⟩) HNE.out.2.2.2.2 (.bool false))
            clear hbd c1 c2 c6 w1 w2
            go_wp2_with fail
            go_roundw
            case rel => exact ⟨k + 1, _, by omega, by go_num, HFN, HN1, HN2, HN3, HBn⟩
            case measure => simp [intOf]; omega
        · have HFN := Lib.hid (show FA C.f8.length M1 MA (i + 1) 0 from by
            have h1 := HFA.out
            rw [show k = C.f8.length by omega] at h1
            exact h1.row)
          go_wp2_with fail
          go_roundw
          case rel => exact ⟨i + 1, MA, by omega, by go_num, HFN, HO1, HO2, HO3, HB⟩
          case measure => simp [intOf]; omega
    · obtain rfl : i = C.f8.length := by omega
      have HAL := Lib.hid (show ∀ a, a < C.f8.length → ∀ j, j < C.f8.length → (MA.getD a []).getD j false = !(M1.getD a []).getD j false from fun a ha j hj => by rw [HFA.out a ha j hj, if_pos (.inl ha)])
      clear HFA
      go_wp2_with fail
      generalize hWS : wr = WS at *
      clear hWS
      go_loopw [9] (fun v wi => ∃ (i : Nat), i ≤ C.f8.length ∧ v = .int .i64 i ∧ Hid (Below WS.heap.size WS wi)) (fun v _ => C.f8.length - (intOf v).toNat)
      case atStart => exact ⟨0, by omega, rfl, Lib.hid (Below.refl _ _)⟩
      case round =>
        obtain ⟨i, hi, rfl, HBU⟩ := hrel
        obtain ⟨WK, rfl⟩ : ∃ W : World, W = wr := ⟨_, rfl⟩
        by_cases hit : i < C.f8.length
        · obtain ⟨b2, hb2, a1, a2, a3, a4⟩ := (HO2.out.below HBU.out).at2 HL2.out hit
          have HA2 := Lib.hid a2
          have hba := (Below.refl WK.heap.size WK).alloc (Nat.le_refl _) (Obj.cells #[.bool true] 4)
          have a1' := (hba.cell (World.block_lt_of_cell? _ _ a1)).trans a1
          have HBA := Lib.hid hba
          clear a2 a3 a4 hb2 hba
          go_wp2_with (first | ((with_reducible refine gate_z (b := .append) (xs := #[.tmp 108, .tmp 109]) rfl ?_); at_builtin; refine app_bool rfl (.tmp 108) (.tmp 109) rfl b2 C.f8.length ((List.range C.f8.length).map fun k => (MA.getD i []).getD k false) (by simp) rfl rfl (fun k hk => by rw [List.getElem?_map, List.getElem?_range hk]; exact HA2.out k hk) (by omega) ?_; intro g5 c5 W5 h5 hb5 hg5 q5 qf5; have HB5 := Lib.hid hb5; have HG5 := Lib.hid h5; clear h5 hb5 hg5 a1 a1'))
          have HBV := Lib.hid (below_step HBU.out (HB5.out.setCell (p := ⟨g5, C.f8.length, none⟩) HG5.out (.bool false)))
          clear q5 qf5
          go_loopw [11] (fun v wi => ∃ (k : Nat), k ≤ C.f8.length ∧ v = .int .i64 k ∧ Hid (Below WS.heap.size WS wi)) (fun v _ => C.f8.length - (intOf v).toNat)
          case atStart => exact ⟨0, by omega, rfl, HBV⟩
          case round =>
            clear HBV
            obtain ⟨k, hk, rfl, HBV⟩ := hrel
            by_cases hkt : k < C.f8.length
            · obtain ⟨x, hx⟩ : ∃ x, x = (M1.getD i []).getD k false := ⟨_, rfl⟩
              obtain ⟨b1, hb1, w1, w2', w3', w4'⟩ := (HO1.out.below HBV.out).at2 HL1.out hit
              obtain ⟨b2, hb2, a1, a2', a3, a4⟩ := (HO2.out.below HBV.out).at2 HL2.out hit
              obtain ⟨b3, hb3, c1, c2', c3, c4⟩ := (HO3.out.below HBV.out).at2 HL3.out hit
              have w2 := w2' k hkt
              have a2 := a2' k hkt
              have c2 := c2' k hkt
              rw [HAL.out i hit k hkt, ← hx] at a2
              rw [HE3.out i hit k, ← hx] at c2
              rw [← hx] at w2
              clear hx w2' w3' w4' a2' a3 a4 c2' c3 c4 hb1 hb2 hb3
              cases x
              · go_wp2_with fail
                go_quiet (fail)
                go_wp2_with fail
                go_roundw
                case rel => exact ⟨k + 1, by omega, by go_num, Lib.hid (pw_below_drewN HBV.out _)⟩
                case measure => simp [intOf]; omega
              · go_wp2_with fail
                go_quiet (fail)
                go_wp2_with fail
                go_roundw
                case rel => exact ⟨k + 1, by omega, by go_num, Lib.hid (pw_below_drewN HBV.out _)⟩
                case measure => simp [intOf]; omega
            · go_wp2_with fail
              go_roundw
              case rel => exact ⟨i + 1, by omega, by go_num, HBV⟩
              case measure => simp [intOf]; omega
        · have hz : CfgIn WK Z0 none none none none none 0 0 0 0 0 := ⟨⟨by simp [Z0], Kd.C_nil _ _⟩, ⟨by simp [Z0], Kd.C_nil _ _⟩, ⟨by simp [Z0], Kd.C_nil _ _⟩, ⟨by simp [Z0], Kd.C_nil _ _⟩, by simp [Z0], Kd.C_nil _ _⟩
          have HZI := Lib.hid hz
          clear hz
          go_wp2_with fail
          refine (check_calls none none none none none 0 0 0 0 0 Z0 _ HZI.out).mono ?_
          rintro e u2 ⟨rfl, hb⟩
          rw [z0_check]
          have HBf := Lib.hid (below_step (below_step HB.out HBU.out) hb)
          clear hb
          go_wp2
          go_ret
          exact ⟨rfl, HBf.out⟩
end Go.Proofs.Ytehbabkgaecoaaa
