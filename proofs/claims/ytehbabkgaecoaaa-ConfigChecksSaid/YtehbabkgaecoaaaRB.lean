/- What the document's parts, windows, Alone, ports, is answer: what config's own do. -/
import Derived.Test.YtehbabkgaecoaaaRA
namespace Go.Proofs.Ytehbabkgaecoaaa
set_option linter.unusedVariables false
set_option linter.unusedSimpArgs false
open Go.RowKit Go.Shelf Go.Proofs.YtehbabkgaecoaaaW.PrintWords Go.Proofs.YtehbabkgaecoaaaW.PrintLast

theorem meetB_symm (a b c d : Int) : meetB a b c d = meetB c d a b := by
  unfold meetB
  exact decide_eq_decide.2 (by omega)
theorem clash_symm (p q : S57) : clash p q = (decide (q.f0 = p.f0) && meetB q.f1 q.f2 p.f1 p.f2) := by
  unfold clash
  rw [meetB_symm, decide_eq_decide.2 (show p.f0 = q.f0 ↔ q.f0 = p.f0 from eq_comm)]
theorem all_snoc {α : Type} {p : α → Bool} {l : List α} {x : α} (h : l.all p = true) (hx : p x = true) : (l ++ [x]).all p = true := by simp [List.all_append, h, hx]
set_option maxRecDepth 100000 in
set_option maxHeartbeats 8000000 in
theorem rparts_calls (A1 A8 A9 A10 A11 : Option Addr) (c1 c8 c9 c10 c11 : Nat) (C : S29) (w : World) (h : CfgIn w C A1 A8 A9 A10 A11 c1 c8 c9 c10 c11) (hC : CfgOk C) (h0 : 4 ≤ C.f0) (h16 : C.f0 ≤ 16) : Calls Try.prog 52 #[.agg #[.int .i64 C.f0, .slice A1 C.f1.length c1, .int .i64 C.f2, .int .i64 C.f3, .int .i64 C.f4, .int .i64 C.f5, .int .i64 C.f6, .int .i64 C.f7, .slice A8 C.f8.length c8, .slice A9 C.f9.length c9, .slice A10 C.f10.length c10, .slice A11 C.f11.length c11]] w fun e w' => e = .returned (.bool (partsB C)) ∧ Below w.heap.size w w' := by
  have HB0 := Lib.hid (show Below w.heap.size w (w.alloc (Obj.cells #[.int .i64 C.f0, .slice A1 C.f1.length c1, .int .i64 C.f2, .int .i64 C.f3, .int .i64 C.f4, .int .i64 C.f5, .int .i64 C.f6, .int .i64 C.f7, .slice A8 C.f8.length c8, .slice A9 C.f9.length c9, .slice A10 C.f10.length c10, .slice A11 C.f11.length c11] 29)) from (Below.refl _ _).alloc (Nat.le_refl _) _)
  have HR := Lib.hid h
  have HN := Lib.hid (blk_new w (o := (Obj.cells #[.int .i64 C.f0, .slice A1 C.f1.length c1, .int .i64 C.f2, .int .i64 C.f3, .int .i64 C.f4, .int .i64 C.f5, .int .i64 C.f6, .int .i64 C.f7, .slice A8 C.f8.length c8, .slice A9 C.f9.length c9, .slice A10 C.f10.length c10, .slice A11 C.f11.length c11] 29)))
  obtain ⟨l1, l8, l9, l10, l11⟩ := h.len
  have HCO := Lib.hid hC.2.2.2.2.2.2.2.2.1.2
  clear h hC
  obtain ⟨b, hb⟩ : ∃ b, b = partsB C := ⟨_, rfl⟩
  rw [← hb]
  have HBB := Lib.hid hb
  clear hb
  go_enter Try.func52, Try.ntmps52
  by_cases h1 : C.f8.length ≤ 32
  case neg =>
    have hres := Lib.hid (show b = false by rw [HBB.out]; simp [partsB, h1])
    have e1 : decide (32 < (C.f8.length : Int)) = true := decide_eq_true (by omega)
    clear h1
    go_wp2
    go_ret
    exact ⟨ret_bool hres.out.symm, HB0.out⟩
  have hbv := Lib.hid (show b = (C.f8.all (partOk C.f0) && (prs C.f8.length).all (prOk C)) by rw [HBB.out, partsB, decide_eq_true h1, Bool.true_and])
  have e1 : decide (32 < (C.f8.length : Int)) = false := decide_eq_false (by omega)
  go_wp2
  go_loopw [3] (fun i wr => ∃ k : Nat, k ≤ C.f8.length ∧ i = .int .i64 k ∧ Hid ((C.f8.take k).all (partOk C.f0) = true) ∧ Hid (Below w.heap.size w wr) ∧ Hid (wr.heap[w.heap.size]? = some (Obj.cells #[.int .i64 C.f0, .slice A1 C.f1.length c1, .int .i64 C.f2, .int .i64 C.f3, .int .i64 C.f4, .int .i64 C.f5, .int .i64 C.f6, .int .i64 C.f7, .slice A8 C.f8.length c8, .slice A9 C.f9.length c9, .slice A10 C.f10.length c10, .slice A11 C.f11.length c11] 29))) (fun i _ => C.f8.length - (intOf i).toNat)
  case atStart => exact ⟨0, by omega, rfl, Lib.hid (by simp), HB0, HN⟩
  case round =>
    clear HB0 HN
    obtain ⟨k, hk, rfl, HA, HB, HC⟩ := hrel
    obtain ⟨g0, -, -, -, -, -, -, -, g8, -, -, -⟩ := cfg_cells HC.out
    by_cases hlt : k < C.f8.length
    · obtain ⟨ad, p, e8, p0, p1, p2, HV⟩ := at_P (HR.out.below HB.out).2.1.2 k hlt
      cases e8
      have hno := Lib.hid (show partOk C.f0 p = false → b = false from fun h => by rw [hbv.out, all_false_at HV.out h]; simp)
      have hyes := Lib.hid (fun h => all_take_succ HV.out HA.out h)
      have HB2 := Lib.hid (HB.out.alloc HB.out.size (Obj.cells #[.int .i64 p.f0, .int .i64 p.f1, .int .i64 p.f2] 57))
      have HC2 := Lib.hid (blk_alloc HC.out (Obj.cells #[.int .i64 p.f0, .int .i64 p.f1, .int .i64 p.f2] 57))
      have hlt0 := blk_lt HC.out
      by_cases c1 : p.f0 < 0
      · have hres := Lib.hid (hno.out (by simp [partOk, withinB]; omega))
        go_wp2
        go_ret
        exact ⟨ret_bool hres.out.symm, HB2.out⟩
      by_cases c2 : C.f0 ≤ p.f0
      · have hres := Lib.hid (hno.out (by simp [partOk, withinB]; omega))
        go_wp2
        go_ret
        exact ⟨ret_bool hres.out.symm, HB2.out⟩
      by_cases c3 : p.f1 < 0
      · have hres := Lib.hid (hno.out (by simp [partOk, withinB]; omega))
        go_wp2
        go_ret
        exact ⟨ret_bool hres.out.symm, HB2.out⟩
      by_cases c4 : p.f2 < p.f1
      · have hres := Lib.hid (hno.out (by simp [partOk, withinB]; omega))
        go_wp2
        go_ret
        exact ⟨ret_bool hres.out.symm, HB2.out⟩
      by_cases c5 : 256 < p.f2
      · have hres := Lib.hid (hno.out (by simp [partOk, withinB]; omega))
        go_wp2
        go_ret
        exact ⟨ret_bool hres.out.symm, HB2.out⟩
      have HS := Lib.hid (hyes.out (by simp [partOk, withinB]; omega))
      go_wp2
      go_roundw
      case rel => exact ⟨k + 1, by omega, by go_num, HS, HB2, HC2⟩
      case measure => simp [intOf]; omega
    · have HAll := Lib.hid (show C.f8.all (partOk C.f0) = true by have := HA.out; rwa [List.take_of_length_le (by omega)] at this)
      have hbw := Lib.hid (show b = (prs C.f8.length).all (prOk C) by rw [hbv.out, HAll.out, Bool.true_and])
      go_wp2
      clear g0 g8
      go_loopw [5] (fun i W => ∃ k : Nat, k ≤ C.f8.length ∧ i = .int .i64 k ∧ Hid ((pTo C.f8.length k 0).all (prOk C) = true) ∧ Hid (Below w.heap.size w W) ∧ Hid (W.heap[w.heap.size]? = some (Obj.cells #[.int .i64 C.f0, .slice A1 C.f1.length c1, .int .i64 C.f2, .int .i64 C.f3, .int .i64 C.f4, .int .i64 C.f5, .int .i64 C.f6, .int .i64 C.f7, .slice A8 C.f8.length c8, .slice A9 C.f9.length c9, .slice A10 C.f10.length c10, .slice A11 C.f11.length c11] 29))) (fun i _ => C.f8.length - (intOf i).toNat)
      case atStart => exact ⟨0, by omega, rfl, Lib.hid (by rw [pTo_zero]; rfl), HB, HC⟩
      case round =>
        clear HA HB HC hlt hk
        obtain ⟨k, hk, rfl, HA, HB, HC⟩ := hrel
        obtain ⟨-, -, -, -, -, -, -, -, g8, -, -, -⟩ := cfg_cells HC.out
        by_cases hlt : k < C.f8.length
        · go_wp2
          clear g8
          go_loopw [6] (fun i W => ∃ j : Nat, j ≤ k ∧ i = .int .i64 j ∧ Hid ((pTo C.f8.length k j).all (prOk C) = true) ∧ Hid (Below w.heap.size w W) ∧ Hid (W.heap[w.heap.size]? = some (Obj.cells #[.int .i64 C.f0, .slice A1 C.f1.length c1, .int .i64 C.f2, .int .i64 C.f3, .int .i64 C.f4, .int .i64 C.f5, .int .i64 C.f6, .int .i64 C.f7, .slice A8 C.f8.length c8, .slice A9 C.f9.length c9, .slice A10 C.f10.length c10, .slice A11 C.f11.length c11] 29))) (fun i _ => k - (intOf i).toNat)
          case atStart => exact ⟨0, by omega, rfl, HA, HB, HC⟩
          case round =>
            clear HA HB HC
            obtain ⟨j, hj, rfl, HA, HB, HC⟩ := hrel
            obtain ⟨-, -, -, -, -, -, -, -, g8, -, -, -⟩ := cfg_cells HC.out
            by_cases hlj : j < k
            · obtain ⟨ad, p, e8, p0, p1, p2, HV⟩ := at_P (HR.out.below HB.out).2.1.2 k hlt
              cases e8
              obtain ⟨ad', q, e8, q0, q1, q2, HV'⟩ := at_P (HR.out.below HB.out).2.1.2 j (by omega)
              cases e8
              have hpr := Lib.hid (show prOk C ⟨⟨k, hlt⟩, ⟨j, hlj⟩⟩ = !clash q p by unfold prOk; simp only [HV.out, HV'.out])
              have hst := Lib.hid (pTo_step hlt hlj)
              have hno := Lib.hid (show clash q p = true → b = false from fun h => by
                rw [hbw.out]
                refine prefix_all (pTo_prefix hlt (show j + 1 ≤ k by omega)) ?_
                rw [hst.out, List.all_append]
                simp [hpr.out, h])
              have hyes := Lib.hid (show clash q p = false → (pTo C.f8.length k (j + 1)).all (prOk C) = true from fun h => by
                rw [hst.out]
                exact all_snoc HA.out (by rw [hpr.out, h]; rfl))
              have HB2 := Lib.hid ((HB.out.alloc HB.out.size (Obj.cells #[.int .i64 p.f0, .int .i64 p.f1, .int .i64 p.f2] 57)).alloc (by have := HB.out.size; simp; omega) (Obj.cells #[.int .i64 q.f0, .int .i64 q.f1, .int .i64 q.f2] 57))
              have HC2 := Lib.hid (blk_alloc (blk_alloc HC.out (Obj.cells #[.int .i64 p.f0, .int .i64 p.f1, .int .i64 p.f2] 57)) (Obj.cells #[.int .i64 q.f0, .int .i64 q.f1, .int .i64 q.f2] 57))
              have hlt0 := blk_lt HC.out
              have HP := Lib.hid (HCO.out p (List.mem_of_getElem? HV.out))
              have HQ := Lib.hid (HCO.out q (List.mem_of_getElem? HV'.out))
              have hba : Below wr.heap.size wr (wr.alloc (Obj.cells #[.int .i64 p.f0, .int .i64 p.f1, .int .i64 p.f2] 57)) := (Below.refl _ _).alloc (Nat.le_refl _) _
              have r0 := (hba.cell (World.block_lt_of_cell? _ _ q0)).trans q0
              have r1 := (hba.cell (World.block_lt_of_cell? _ _ q1)).trans q1
              have r2 := (hba.cell (World.block_lt_of_cell? _ _ q2)).trans q2
              clear hba
              have gg8 : ∀ o : Obj, (wr.alloc o).cell? ⟨w.heap.size, 8, none⟩ = some (.slice (some ad) C.f8.length c8) := fun o => (cfg_cells (blk_alloc HC.out o)).2.2.2.2.2.2.2.2.1
              by_cases hn : p.f0 = q.f0
              case neg =>
                have en : (p.f0 == q.f0) = false := by simpa using hn
                have HS := Lib.hid (hyes.out (by rw [clash_symm, decide_eq_false hn]; rfl))
                clear hn
                go_wp2
                go_roundw
                case rel => exact ⟨j + 1, by omega, by go_num, HS, HB2, HC2⟩
                case measure => simp [intOf]; omega
              have en : (p.f0 == q.f0) = true := by simpa using hn
              have hcl := Lib.hid (show clash q p = meetB p.f1 p.f2 q.f1 q.f2 by rw [clash_symm, decide_eq_true hn, Bool.true_and])
              clear hn
              obtain ⟨m, hm⟩ : ∃ m, m = meetB p.f1 p.f2 q.f1 q.f2 := ⟨_, rfl⟩
              have HM := Lib.hid hm
              clear hm
              go_wp2_with fail
              refine (rmeet_calls p.f1 p.f2 q.f1 q.f2 _ HP.out.2.1.bd.1 HP.out.2.2.bd.2).mono ?_
              rintro e w' ⟨rfl, rfl⟩
              rw [← HM.out]
              cases m
              case true =>
                have hres := Lib.hid (hno.out (by rw [hcl.out, ← HM.out]))
                go_wp2
                go_ret
                exact ⟨ret_bool hres.out.symm, HB2.out⟩
              have HS := Lib.hid (hyes.out (by rw [hcl.out, ← HM.out]))
              go_wp2
              go_roundw
              case rel => exact ⟨j + 1, by omega, by go_num, HS, HB2, HC2⟩
              case measure => simp [intOf]; omega
            · have HS := Lib.hid (show (pTo C.f8.length (k + 1) 0).all (prOk C) = true by rw [← pTo_row hlt]; have := HA.out; rwa [show j = k by omega] at this)
              go_wp2
              go_roundw
              case rel => exact ⟨k + 1, by omega, by go_num, HS, HB, HC⟩
              case measure => simp [intOf]; omega
        · have hres := Lib.hid (show b = true by rw [hbw.out]; have := HA.out; rwa [show k = C.f8.length by omega, pTo_end] at this)
          go_wp2
          go_ret
          exact ⟨ret_bool hres.out.symm, HB.out⟩
set_option maxHeartbeats 4000000 in
theorem rwindows_calls (A1 A8 A9 A10 A11 : Option Addr) (c1 c8 c9 c10 c11 : Nat) (C : S29) (w : World) (h : CfgIn w C A1 A8 A9 A10 A11 c1 c8 c9 c10 c11) : Calls Try.prog 53 #[.agg #[.int .i64 C.f0, .slice A1 C.f1.length c1, .int .i64 C.f2, .int .i64 C.f3, .int .i64 C.f4, .int .i64 C.f5, .int .i64 C.f6, .int .i64 C.f7, .slice A8 C.f8.length c8, .slice A9 C.f9.length c9, .slice A10 C.f10.length c10, .slice A11 C.f11.length c11]] w fun e w' => e = .returned (.bool (windowsB C)) ∧ Below w.heap.size w w' := by
  have HB0 := Lib.hid (show Below w.heap.size w (w.alloc (Obj.cells #[.int .i64 C.f0, .slice A1 C.f1.length c1, .int .i64 C.f2, .int .i64 C.f3, .int .i64 C.f4, .int .i64 C.f5, .int .i64 C.f6, .int .i64 C.f7, .slice A8 C.f8.length c8, .slice A9 C.f9.length c9, .slice A10 C.f10.length c10, .slice A11 C.f11.length c11] 29)) from (Below.refl _ _).alloc (Nat.le_refl _) _)
  have HR := Lib.hid h
  have HN := Lib.hid (blk_new w (o := (Obj.cells #[.int .i64 C.f0, .slice A1 C.f1.length c1, .int .i64 C.f2, .int .i64 C.f3, .int .i64 C.f4, .int .i64 C.f5, .int .i64 C.f6, .int .i64 C.f7, .slice A8 C.f8.length c8, .slice A9 C.f9.length c9, .slice A10 C.f10.length c10, .slice A11 C.f11.length c11] 29)))
  obtain ⟨l1, l8, l9, l10, l11⟩ := h.len
  clear h
  obtain ⟨b, hb⟩ : ∃ b, b = windowsB C := ⟨_, rfl⟩
  rw [← hb]
  have HBB := Lib.hid hb
  clear hb
  go_enter Try.func53, Try.ntmps53
  by_cases h1 : (C.f9.length : Int) = C.f0
  case neg =>
    have hres := Lib.hid (show b = false by rw [HBB.out]; simp [windowsB, h1])
    have e2 : ((C.f9.length : Int) != C.f0) = true := by simpa using h1
    clear h1
    go_wp2
    go_ret
    exact ⟨ret_bool hres.out.symm, HB0.out⟩
  have hn := Lib.hid (show b = (List.range C.f9.length).all (winAt C) by rw [HBB.out]; simp [windowsB, h1])
  have e2 : ((C.f9.length : Int) != C.f0) = false := by simpa using h1
  go_wp2
  clear e2
  go_loopw [3] (fun i wr => ∃ k : Nat, k ≤ C.f9.length ∧ i = .int .i64 k ∧ Hid ((List.range k).all (winAt C) = true) ∧ Hid (Below w.heap.size w wr) ∧ Hid (wr.heap[w.heap.size]? = some (Obj.cells #[.int .i64 C.f0, .slice A1 C.f1.length c1, .int .i64 C.f2, .int .i64 C.f3, .int .i64 C.f4, .int .i64 C.f5, .int .i64 C.f6, .int .i64 C.f7, .slice A8 C.f8.length c8, .slice A9 C.f9.length c9, .slice A10 C.f10.length c10, .slice A11 C.f11.length c11] 29))) (fun i _ => C.f9.length - (intOf i).toNat)
  case atStart => exact ⟨0, by omega, rfl, Lib.hid rfl, HB0, HN⟩
  case round =>
    clear HB0 HN
    obtain ⟨k, hk, rfl, HN, HB, HC⟩ := hrel
    obtain ⟨g0, -, -, -, -, -, -, -, -, g9, -, -⟩ := cfg_cells HC.out
    by_cases hlt : k < C.f9.length
    · obtain ⟨ad, r, Ar, cr, e9, hc, hrc, HRR, HV⟩ := at_W (HR.out.below HB.out).2.2.1.2 k hlt
      cases e9
      have hrl := HRR.out.2.1
      have hat := Lib.hid (show winAt C k = rowOk C k r by rw [winAt, HV.out])
      by_cases h2 : (r.length : Int) = C.f0
      case neg =>
        have hres := Lib.hid (show b = false by rw [hn.out]; exact all_range_false hlt (by rw [hat.out, rowOk, decide_eq_false h2]; rfl))
        have e3 : ((r.length : Int) != C.f0) = true := by simpa using h2
        have elt : decide ((k : Int) < C.f0) = true := decide_eq_true (by omega)
        clear h2
        go_wp2
        go_quiet (fail)
        go_wp2
        go_ret
        exact ⟨ret_bool hres.out.symm, (pw_below_drewN HB.out _)⟩
      have hat2 := Lib.hid (show winAt C k = r.all (winOk C k) by rw [hat.out, rowOk, decide_eq_true h2]; simp)
      have e3 : ((r.length : Int) != C.f0) = false := by simpa using h2
      have elt : decide ((k : Int) < C.f0) = true := decide_eq_true (by omega)
      go_wp2
      go_quiet (fail)
      go_wp2
      clear g0 g9 hc e3 elt HRR
      go_loopw [4] (fun i W => ∃ j : Nat, j ≤ r.length ∧ i = .int .i64 j ∧ Hid ((r.take j).all (winOk C k) = true) ∧ Hid (Below w.heap.size w W) ∧ Hid (W.heap[w.heap.size]? = some (Obj.cells #[.int .i64 C.f0, .slice A1 C.f1.length c1, .int .i64 C.f2, .int .i64 C.f3, .int .i64 C.f4, .int .i64 C.f5, .int .i64 C.f6, .int .i64 C.f7, .slice A8 C.f8.length c8, .slice (some ad) C.f9.length c9, .slice A10 C.f10.length c10, .slice A11 C.f11.length c11] 29))) (fun i _ => r.length - (intOf i).toNat)
      case atStart => exact ⟨0, by omega, rfl, Lib.hid (by simp), Lib.hid (pw_below_drewN HB.out _), Lib.hid (blk_drewN HC.out _)⟩
      case round =>
        clear HB HC
        obtain ⟨j, hj, rfl, HM, HB, HC⟩ := hrel
        obtain ⟨g0, -, -, -, -, -, -, -, g8, g9, -, -⟩ := cfg_cells HC.out
        by_cases hlj : j < r.length
        · obtain ⟨ad', r', Ar, cr, e9, hc, hrc, HRR, HV'⟩ := at_W (HR.out.below HB.out).2.2.1.2 k hlt
          cases e9
          obtain rfl : r = r' := by have := HV.out.symm.trans HV'.out; injection this
          obtain ⟨ar, p, rfl, hcp, HP⟩ := at_I HRR.out j hlj
          have hno := Lib.hid (show winOk C k p = false → b = false from fun h => by rw [hn.out]; exact all_range_false hlt (by rw [hat2.out]; exact all_false_at HP.out h))
          have hyes := Lib.hid (fun h => all_take_succ HP.out HM.out h)
          have elj : decide ((j : Int) < C.f0) = true := decide_eq_true (by omega)
          by_cases hm1 : p = -1
          · have HS := Lib.hid (hyes.out (by simp [winOk, hm1]))
            have e4 : (p != -1) = false := by simpa using hm1
            clear hm1
            go_wp2
            go_roundw
            case rel => exact ⟨j + 1, by omega, by go_num, HS, HB, HC⟩
            case measure => simp [intOf]; omega
          have e4 : (p != -1) = true := by simpa using hm1
          have HM1 := Lib.hid hm1
          clear hm1
          by_cases hw0 : p < 0
          · have hres := Lib.hid (hno.out (by simp [winOk, HM1.out, withinB]; omega))
            go_wp2
            go_ret
            exact ⟨ret_bool hres.out.symm, HB.out⟩
          by_cases hw1 : (C.f8.length : Int) ≤ p
          · have hres := Lib.hid (hno.out (by simp [winOk, HM1.out, withinB]; omega))
            go_wp2
            go_ret
            exact ⟨ret_bool hres.out.symm, HB.out⟩
          obtain ⟨ap, q, e8, q0, q1, q2, HQ⟩ := at_P (HR.out.below HB.out).2.1.2 p.toNat (by omega)
          cases e8
          clear q1 q2
          have hlt8 : p < (C.f8.length : Int) := by omega
          by_cases hq : q.f0 = (k : Int)
          · have HS := Lib.hid (hyes.out (by simp [winOk, withinB, HQ.out, hq]; omega))
            have e5 : (q.f0 != (k : Int)) = false := by simpa using hq
            clear hq
            go_wp2
            go_roundw
            case rel => exact ⟨j + 1, by omega, by go_num, HS, HB, HC⟩
            case measure => simp [intOf]; omega
          · have hres := Lib.hid (hno.out (by simp [winOk, HM1.out, HQ.out, hq]))
            have e5 : (q.f0 != (k : Int)) = true := by simpa using hq
            clear hq
            go_wp2
            go_ret
            exact ⟨ret_bool hres.out.symm, HB.out⟩
        · have HS := Lib.hid (show (List.range (k + 1)).all (winAt C) = true by
            rw [all_range_snoc, HN.out, hat2.out]
            have := HM.out
            rw [List.take_of_length_le (by omega)] at this
            rw [this]; rfl)
          have elj : decide ((j : Int) < C.f0) = false := decide_eq_false (by omega)
          go_wp2
          go_roundw
          case rel => exact ⟨k + 1, by omega, by go_num, HS, HB, HC⟩
          case measure => simp [intOf]; omega
    · have hres := Lib.hid (show b = true by rw [hn.out]; have := HN.out; rwa [show k = C.f9.length by omega] at this)
      have elt : decide ((k : Int) < C.f0) = false := decide_eq_false (by omega)
      go_wp2
      go_ret
      exact ⟨ret_bool hres.out.symm, HB.out⟩
end Go.Proofs.Ytehbabkgaecoaaa
