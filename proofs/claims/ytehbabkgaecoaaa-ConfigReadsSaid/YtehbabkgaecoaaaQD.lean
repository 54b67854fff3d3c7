/- The law ConfigReads' walk. -/
import Derived.Test.YtehbabkgaecoaaaQC
import Derived.Test.YtehbabkgaecoaaaSPB
import Derived.Test.YtehbabkgaecoaaaSM
namespace Go.Proofs.Ytehbabkgaecoaaa
set_option linter.unusedVariables false
set_option linter.unusedSimpArgs false
open Go.RowKit Go.Shelf Go.Proofs.YtehbabkgaecoaaaW.PrintWords Go.Proofs.YtehbabkgaecoaaaW.PrintLast

theorem byte_wf {x : Int} (h : (Lit.int .u8 x).wf = true) : Byte x := by
  unfold Byte
  simp [Lit.wf, IntKind.min, IntKind.max, IntKind.signed, IntKind.bits] at h
  omega
theorem noCfg_len : LenOk noCfg := ⟨by decide, (fun _ h => by cases h), (fun _ h => by cases h)⟩
theorem dec_len (b : List Int) (hy : ∀ y ∈ b, Byte y) : LenOk (decD b).1 := by
  unfold decD
  split
  · split
    · rename_i h
      rw [body_eq] at h ⊢
      obtain ⟨⟨-, -⟩, ⟨h1, -⟩, -, ⟨-, h3⟩, -, ⟨-, h5⟩⟩ := (rn_body.bwd (b.drop 4) (fun y hm => hy y (List.mem_of_mem_drop hm)) h.1).1
      exact ⟨by show (bodyR (b.drop 4) true).1.2.1.length ≤ 1000000; omega, fun r hr => by have := (h3 r hr).1; omega, fun x hx => by have := (h5 x hx).2.2.1; omega⟩
    · exact noCfg_len
  · exact noCfg_len
theorem kU_KM (w : World) (base : Nat) (ok : Nat → Prop) (x : Int) (cs : List Value) (h : kU.K w x cs) : kU.M w base ok x cs := h
section
variable {W V : World} {s t : Nat} {C : S29} {A1 A8 A9 A10 A11 : Option Addr} {c1 c8 c9 c10 c11 : Nat}
theorem OwnCfg.st (h : OwnCfg W s C A1 A8 A9 A10 A11 c1 c8 c9 c10 c11) (ht : W.heap.size = t) (hb : Below t W V) : CfgST V s t C A1 A8 A9 A10 A11 c1 c8 c9 c10 c11 := by
  subst ht
  obtain ⟨b, b2, h1, h2, r1, r8, r9, r10, r11⟩ := h
  exact ⟨Kd.R_mono (Kd.R_bound (Kd.R_below r1 hb) |> fun _ => Kd.R_step (Kd.R_bound r1) (fun k _ hk => hb.block k hk)) (fun k hk => hk.2.2.1),
    Kd.R_mono (Kd.R_step (Kd.R_bound r8) (fun k _ hk => hb.block k hk)) (fun k hk => hk.2.2.1),
    Kd.R_lower (Kd.R_mono (Kd.R_step (Kd.R_bound r9) (fun k _ hk => hb.block k hk)) (fun k hk => hk.2.2.1)) h1,
    Kd.R_mono (Kd.R_step (Kd.R_bound r10) (fun k _ hk => hb.block k hk)) (fun k hk => hk.2.2.1),
    Kd.R_lower (Kd.R_mono (Kd.R_step (Kd.R_bound r11) (fun k _ hk => hb.block k hk)) (fun k hk => hk.2.2.1)) (Nat.le_trans h1 h2)⟩
theorem R_far_in {α : Type} {d : Kd α} {e base : Nat} {ok : Nat → Prop} {A : Option Addr} {c : Nat} {xs : List α} {U : World} (h : Kd.R d e U base ok (.slice A xs.length c) xs) (hf : ∀ k, base ≤ k → k < U.heap.size → V.heap[k]? = U.heap[k]?) : xs.length ≤ c ∧ Kd.C d V A xs.length xs := by
  have h2 := Kd.R_step (Kd.R_bound h) (fun k hk hlt => hf k hk.2.1 hlt)
  exact ⟨(Kd.R_reads' h2).2.1, (Kd.R_reads' h2).2.2⟩
theorem OwnCfg.far_in {U : World} (h : OwnCfg U s C A1 A8 A9 A10 A11 c1 c8 c9 c10 c11) (hf : ∀ k, s ≤ k → k < U.heap.size → V.heap[k]? = U.heap[k]?) : CfgIn V C A1 A8 A9 A10 A11 c1 c8 c9 c10 c11 := by
  obtain ⟨b, b2, h1, h2, r1, r8, r9, r10, r11⟩ := h
  exact ⟨R_far_in r1 hf, R_far_in r8 hf, R_far_in r9 (fun k hk => hf k (by omega)), R_far_in r10 hf, R_far_in r11 (fun k hk => hf k (by omega))⟩
end
set_option maxRecDepth 100000 in
set_option maxHeartbeats 32000000 in
theorem reads_calls (w : World) (A0 : Option Addr) (c0 : Nat) (l0 : List Int) (hr0 : Kd.C (Kd.int .u8) w A0 l0.length l0) (hc0 : l0.length ≤ c0) (_hl0 : l0.length * 1 ≤ 140737488351232) (hw0 : ∀ x ∈ l0, (Lit.int .u8 x).wf = true) :
    Calls Try.prog 3 #[.slice A0 l0.length c0] w fun e w' => e = .returned (.bool true) ∧ Below w.heap.size w w' := by
  have HR := Lib.hid hr0
  have HC := Lib.hid hc0
  have HY := Lib.hid (show ∀ x ∈ l0, Byte x from fun x hx => byte_wf (hw0 x hx))
  clear hr0 hc0 hw0
  by_cases hbig : l0.length > 100000
  · have hb1 : decide ((l0.length : Int) > 100000) = true := decide_eq_true (by omega)
    clear hbig
    go_enter Try.func3, Try.ntmps3
    go_wp2
    go_ret
    exact ⟨rfl, Below.refl _ _⟩
  have hb1 : decide ((l0.length : Int) > 100000) = false := decide_eq_false (by omega)
  have HL := Lib.hid (show l0.length ≤ 100000 by omega)
  clear hbig
  go_enter Try.func3, Try.ntmps3
  go_wp2_with (first | ((with_reducible refine gate_z (b := .append) (xs := #[.tmp 13, .tmp 14]) rfl ?_); at_builtin; refine app_whole kU rfl (.tmp 13) (.tmp 14) 22 5 (.int .u8 0) 1 rfl Try.underlying22 infoU rfl (by decide) (by omega) l0 A0 c0 (fun _ => True) _ rfl (by simp) rfl HR.out kU_KM (fun _ _ => trivial) (by have := HL.out; omega) ?_; intro v5 W1 hr5 hb5; have HB1 := Lib.hid hb5; obtain ⟨Ao, co, rfl, hco, hCo⟩ := Kd.R_reads hr5; have HO := Lib.hid hCo; have HCO := Lib.hid hco; clear hr5 hb5 hco hCo))
  have HR1 := Lib.hid (Kd.C_below HR.out HB1.out)
  refine (rdecode_calls W1 A0 c0 l0 HR1.out HC.out HY.out (by have := HL.out; omega)).mono ?_
  have HLN := Lib.hid (dec_len l0 HY.out)
  rw [decQ_eq]
  obtain ⟨⟨C, z⟩, hCz⟩ : ∃ x, x = decD l0 := ⟨_, rfl⟩
  have HCZ := Lib.hid hCz
  rw [← hCz] at HLN ⊢
  clear hCz
  rintro e W2 ⟨A1, A8, A9, A10, A11, c1, c8, c9, c10, c11, rfl, hin, hb2⟩
  dsimp only at hin HLN ⊢
  have hba : Below W2.heap.size W2 (W2.alloc (Obj.cells #[.int .i64 C.f0, .slice A1 C.f1.length c1, .int .i64 C.f2, .int .i64 C.f3, .int .i64 C.f4, .int .i64 C.f5, .int .i64 C.f6, .int .i64 C.f7, .slice A8 C.f8.length c8, .slice A9 C.f9.length c9, .slice A10 C.f10.length c10, .slice A11 C.f11.length c11] 29)) := (Below.refl _ _).alloc (Nat.le_refl _) _
  have HW := Lib.hid (hin.below hba)
  have HBW := Lib.hid (blk_new W2 (Obj.cells #[.int .i64 C.f0, .slice A1 C.f1.length c1, .int .i64 C.f2, .int .i64 C.f3, .int .i64 C.f4, .int .i64 C.f5, .int .i64 C.f6, .int .i64 C.f7, .slice A8 C.f8.length c8, .slice A9 C.f9.length c9, .slice A10 C.f10.length c10, .slice A11 C.f11.length c11] 29))
  have HB2 := Lib.hid (below_step (below_step HB1.out hb2) hba)
  have HO2 := Lib.hid (Kd.C_below HO.out (below_step hb2 hba))
  clear hin hb2 hba HR1 HO
  go_wp2_with fail
  have HWL := Lib.hid (show W2.heap.size < (W2.alloc (Obj.cells #[.int .i64 C.f0, .slice A1 C.f1.length c1, .int .i64 C.f2, .int .i64 C.f3, .int .i64 C.f4, .int .i64 C.f5, .int .i64 C.f6, .int .i64 C.f7, .slice A8 C.f8.length c8, .slice A9 C.f9.length c9, .slice A10 C.f10.length c10, .slice A11 C.f11.length c11] 29)).heap.size by simp)
  generalize hW3 : W2.alloc (Obj.cells #[.int .i64 C.f0, .slice A1 C.f1.length c1, .int .i64 C.f2, .int .i64 C.f3, .int .i64 C.f4, .int .i64 C.f5, .int .i64 C.f6, .int .i64 C.f7, .slice A8 C.f8.length c8, .slice A9 C.f9.length c9, .slice A10 C.f10.length c10, .slice A11 C.f11.length c11] 29) = W3 at *
  clear hW3
  have HW3 := HW
  have HBW3 := HBW
  have HBs := HB2
  refine (decode_calls W3 Ao co l0 HO2.out HCO.out HY.out).mono ?_
  rw [← HCZ.out]
  rintro e W4 ⟨B1, B8, B9, B10, B11, d1, d8, d9, d10, d11, rfl, ho, hb4⟩
  dsimp only at ho ⊢
  have hba : Below W4.heap.size W4 (W4.alloc (Obj.cells #[.int .i64 C.f0, .slice B1 C.f1.length d1, .int .i64 C.f2, .int .i64 C.f3, .int .i64 C.f4, .int .i64 C.f5, .int .i64 C.f6, .int .i64 C.f7, .slice B8 C.f8.length d8, .slice B9 C.f9.length d9, .slice B10 C.f10.length d10, .slice B11 C.f11.length d11] 29)) := (Below.refl _ _).alloc (Nat.le_refl _) _
  have HCO4 := Lib.hid ho
  have HT := Lib.hid (show W3.heap.size ≤ W4.heap.size from hb4.size)
  have HBC := Lib.hid (blk_new W4 (Obj.cells #[.int .i64 C.f0, .slice B1 C.f1.length d1, .int .i64 C.f2, .int .i64 C.f3, .int .i64 C.f4, .int .i64 C.f5, .int .i64 C.f6, .int .i64 C.f7, .slice B8 C.f8.length d8, .slice B9 C.f9.length d9, .slice B10 C.f10.length d10, .slice B11 C.f11.length d11] 29))
  have HB45 := Lib.hid hba
  have HB3 := Lib.hid (below_step hb4 hba)
  replace HW := Lib.hid (HW.out.below (below_step hb4 hba))
  replace HBW := Lib.hid (blk_keep (below_step hb4 hba) HBW.out)
  replace HB2 := Lib.hid (below_step HB2.out (below_step hb4 hba))
  replace HO2 := Lib.hid (Kd.C_below HO2.out (below_step hb4 hba))
  clear ho hb4
  go_wp2_with fail
  have HT5 := Lib.hid (show W4.heap.size < (W4.alloc (Obj.cells #[.int .i64 C.f0, .slice B1 C.f1.length d1, .int .i64 C.f2, .int .i64 C.f3, .int .i64 C.f4, .int .i64 C.f5, .int .i64 C.f6, .int .i64 C.f7, .slice B8 C.f8.length d8, .slice B9 C.f9.length d9, .slice B10 C.f10.length d10, .slice B11 C.f11.length d11] 29)).heap.size by simp)
  clear hba
  generalize hW5 : W4.alloc (Obj.cells #[.int .i64 C.f0, .slice B1 C.f1.length d1, .int .i64 C.f2, .int .i64 C.f3, .int .i64 C.f4, .int .i64 C.f5, .int .i64 C.f6, .int .i64 C.f7, .slice B8 C.f8.length d8, .slice B9 C.f9.length d9, .slice B10 C.f10.length d10, .slice B11 C.f11.length d11] 29) = W5 at *
  clear hW5
  refine (decode_calls W5 Ao co l0 HO2.out HCO.out HY.out).mono ?_
  rw [← HCZ.out]
  rintro e W6 ⟨D1, D8, D9, D10, D11, e1, e8, e9, e10, e11, rfl, ho, hb6⟩
  dsimp only at ho ⊢
  have hba : Below W6.heap.size W6 (W6.alloc (Obj.cells #[.int .i64 C.f0, .slice D1 C.f1.length e1, .int .i64 C.f2, .int .i64 C.f3, .int .i64 C.f4, .int .i64 C.f5, .int .i64 C.f6, .int .i64 C.f7, .slice D8 C.f8.length e8, .slice D9 C.f9.length e9, .slice D10 C.f10.length e10, .slice D11 C.f11.length e11] 29)) := (Below.refl _ _).alloc (Nat.le_refl _) _
  have HDO := Lib.hid ho
  have HB57 := Lib.hid (below_step hb6 hba)
  have HB67 := Lib.hid hba
  have HBD := Lib.hid (blk_new W6 (Obj.cells #[.int .i64 C.f0, .slice D1 C.f1.length e1, .int .i64 C.f2, .int .i64 C.f3, .int .i64 C.f4, .int .i64 C.f5, .int .i64 C.f6, .int .i64 C.f7, .slice D8 C.f8.length e8, .slice D9 C.f9.length e9, .slice D10 C.f10.length e10, .slice D11 C.f11.length e11] 29))
  have HT7 := Lib.hid (show W5.heap.size ≤ W6.heap.size from hb6.size)
  replace HBC := Lib.hid (blk_keep HB57.out HBC.out)
  replace HW := Lib.hid (HW.out.below HB57.out)
  replace HBW := Lib.hid (blk_keep HB57.out HBW.out)
  replace HB2 := Lib.hid (below_step HB2.out HB57.out)
  replace HO2 := Lib.hid (Kd.C_below HO2.out HB57.out)
  have HR7 := Lib.hid (Kd.C_below HR.out HB2.out)
  replace HB3 := Lib.hid (below_step HB3.out HB57.out)
  have HB47 := Lib.hid (below_step HB45.out HB57.out)
  have HC7 := Lib.hid (HCO4.out.in_.below HB47.out)
  clear ho hb6 hba
  obtain ⟨n0, n1, n2, n3, n4, n5, n6, n7, n8, n9, n10, n11⟩ := cfg_cells HBW.out
  obtain ⟨k0, k1, k2, k3, k4, k5, k6, k7, k8, k9, k10, k11⟩ := cfg_cells HBC.out
  go_wp2_with fail
  have HT67 := Lib.hid (show W6.heap.size < (W6.alloc (Obj.cells #[.int .i64 C.f0, .slice D1 C.f1.length e1, .int .i64 C.f2, .int .i64 C.f3, .int .i64 C.f4, .int .i64 C.f5, .int .i64 C.f6, .int .i64 C.f7, .slice D8 C.f8.length e8, .slice D9 C.f9.length e9, .slice D10 C.f10.length e10, .slice D11 C.f11.length e11] 29)).heap.size by simp)
  generalize hW7 : W6.alloc (Obj.cells #[.int .i64 C.f0, .slice D1 C.f1.length e1, .int .i64 C.f2, .int .i64 C.f3, .int .i64 C.f4, .int .i64 C.f5, .int .i64 C.f6, .int .i64 C.f7, .slice D8 C.f8.length e8, .slice D9 C.f9.length e9, .slice D10 C.f10.length e10, .slice D11 C.f11.length e11] 29) = W7 at *
  clear hW7
  refine (same_calls B1 B8 B9 B10 B11 d1 d8 d9 d10 d11 A1 A8 A9 A10 A11 c1 c8 c9 c10 c11 C W7 HC7.out HW.out).mono ?_
  rintro e W8 ⟨rfl, hb8⟩
  clear n0 n1 n2 n3 n4 n5 n6 n7 n8 n9 n10 n11 k0 k1 k2 k3 k4 k5 k6 k7 k8 k9 k10 k11
  have hs1 : (convert 22 9 (.slice Ao l0.length co)).run Try.prog W8 = .ok (.string (strOfNums l0)) W8 := Kd.C_string Try.underlying22 Try.underlying5 Try.underlying9 (Kd.C_below HO2.out hb8)
  have hs2 : (convert 22 9 (.slice A0 l0.length c0)).run Try.prog W8 = .ok (.string (strOfNums l0)) W8 := Kd.C_string Try.underlying22 Try.underlying5 Try.underlying9 (Kd.C_below HR7.out hb8)
  have HBC8 := Lib.hid (blk_keep hb8 HBC.out)
  have HB38 := Lib.hid (below_step HB3.out hb8)
  have HB48 := Lib.hid (below_step HB47.out hb8)
  have HB68 := Lib.hid (below_step HB67.out hb8)
  have HBw8 := Lib.hid (below_step HB2.out hb8)
  have HBD8 := Lib.hid (blk_keep hb8 HBD.out)
  have HT8 := Lib.hid hb8.size
  clear hb8
  obtain ⟨k0, k1, k2, k3, k4, k5, k6, k7, k8, k9, k10, k11⟩ := cfg_cells HBC8.out
  go_wp2_with fail
  clear k0 k1 k2 k3 k4 k5 k6 k7 k8 k9 k10 k11 hs1 hs2
  refine (spoil_calls B1 B8 B9 B10 B11 d1 d8 d9 d10 d11 C W8 W3.heap.size W4.heap.size HT.out (by have := HB48.out.size; omega) (HCO4.out.st rfl HB48.out) HLN.out).mono ?_
  rintro e V ⟨rfl, hsp⟩
  have HB3V := Lib.hid (HB38.out.trans hsp.bel)
  have HBV := Lib.hid (HBw8.out.trans (hsp.bel.mono (by have := HBs.out.size; omega)))
  have HWV := Lib.hid (HW3.out.below HB3V.out)
  have HDV := Lib.hid (HDO.out.far_in (V := V) (fun k h1 h2 => (hsp.far k (by have := HB68.out.size; omega) (by have := HT5.out; omega)).trans (HB68.out.block k h2)))
  have hbw := (HB3V.out.block _ HWL.out).trans HBW3.out
  have hbd := (hsp.far _ (blk_lt HBD8.out) (by have := HT5.out; have := HT7.out; omega)).trans HBD8.out
  obtain ⟨n0, n1, n2, n3, n4, n5, n6, n7, n8, n9, n10, n11⟩ := cfg_cells hbw
  obtain ⟨k0, k1, k2, k3, k4, k5, k6, k7, k8, k9, k10, k11⟩ := cfg_cells hbd
  clear hsp hbw hbd
  go_wp2_with fail
  refine (same_calls D1 D8 D9 D10 D11 e1 e8 e9 e10 e11 A1 A8 A9 A10 A11 c1 c8 c9 c10 c11 C V HDV.out HWV.out).mono ?_
  rintro e U ⟨rfl, hbu⟩
  go_wp2_with fail
  go_ret
  exact ⟨rfl, below_step HBV.out hbu⟩
end Go.Proofs.Ytehbabkgaecoaaa
