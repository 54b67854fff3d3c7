/- The law PlaceNames' walk: a straight one over the contracts. -/
import Derived.Test.YtnbcnkpcmjkglaaAP
namespace Go.Proofs.Ytnbcnkpcmjkglaa
open Go.RowKit Go.Shelf Go.Proofs.Ytnbcnkpcmjkglaa.Px Go.Proofs.Ytnbcnkpcmjkglaa.Ql Go.Proofs.Ytnbcnkpcmjkglaa.Qm Go.Proofs.YtnbcnkpcmjkglaaW.PrintWords Go.Proofs.YtnbcnkpcmjkglaaW.PrintLast
namespace Names
theorem two_ints {W : World} {b : Nat} (x y : Int) (h : W.heap[b]? = some (Obj.cells #[.int .i64 x, .int .i64 y] 3 (0, 0))) : Kd.C (Kd.int .i64) W (some ⟨b, 0, none⟩) ([x, y] : List Int).length [x, y] := by
  refine ⟨rfl, by simp, fun _ => ⟨_, rfl, fun j p hj => ⟨[.int .i64 p], rfl, rfl, fun i u hu => ?_⟩⟩⟩
  have hc := fun i => blk_cell h i
  match i, hu with
  | 0, hu =>
    simp at hu; subst hu
    match j, hj with
    | 0, hj => simp at hj; subst hj; exact hc 0
    | 1, hj => simp at hj; subst hj; exact hc 1
    | j + 2, hj => simp at hj
  | i + 1, hu => simp at hu
theorem three_ints {W : World} {b : Nat} (x y z : Int) (h : W.heap[b]? = some (Obj.cells #[.int .i64 x, .int .i64 y, .int .i64 z] 3 (0, 0))) : Kd.C (Kd.int .i64) W (some ⟨b, 0, none⟩) ([x, y, z] : List Int).length [x, y, z] := by
  refine ⟨rfl, by simp, fun _ => ⟨_, rfl, fun j p hj => ⟨[.int .i64 p], rfl, rfl, fun i u hu => ?_⟩⟩⟩
  have hc := fun i => blk_cell h i
  match i, hu with
  | 0, hu =>
    simp at hu; subst hu
    match j, hj with
    | 0, hj => simp at hj; subst hj; exact hc 0
    | 1, hj => simp at hj; subst hj; exact hc 1
    | 2, hj => simp at hj; subst hj; exact hc 2
    | j + 3, hj => simp at hj
  | i + 1, hu => simp at hu
abbrev few : List S30 := [⟨0, 4⟩, ⟨6, 8⟩]
/-- What is free, any order of the spans that lets it be reckoned. -/
theorem freeL_perm {l m : List S30} {limit : Int} (hm : m.Perm (l.filter (keepB limit))) (h : m.Pairwise (fun a b => a.f0 ≤ b.f0)) : freeL l limit = goF limit 0 (m.map toP) :=
  Runs.uniq (freeL_runs l limit) (free_runs' hm h)
theorem few3 : freeL [⟨0, 4⟩, ⟨6, 8⟩, ⟨4, 6⟩] 12 = [(8, 12)] := by
  rw [freeL_perm (m := [⟨0, 4⟩, ⟨4, 6⟩, ⟨6, 8⟩]) ((List.Perm.swap _ _ _).cons _) (by decide +kernel)]
  decide +kernel
theorem few4 : freeL [⟨0, 4⟩, ⟨6, 8⟩, ⟨4, 6⟩, ⟨8, 12⟩] 12 = [] := by
  rw [freeL_perm (m := [⟨0, 4⟩, ⟨4, 6⟩, ⟨6, 8⟩, ⟨8, 12⟩]) ((List.Perm.swap _ _ _).cons _) (by decide +kernel)]
  decide +kernel
theorem fst (l : List S30) (F : List (Int × Int)) (limit n al : Int) (h : freeL l limit = F) : firstR l n al limit = if mayB n al limit then (if n = 0 then (0, true) else match findF n al F with | some r => (r, true) | none => (-1, false)) else (-1, false) := by
  unfold firstR firstV
  rw [h]
  rfl
theorem v_first3 : place_First.f 60 few 3 1 12 = some (8, true) := by
  rw [first_f _ _ _ _ _ (by decide), fst _ _ _ _ _ few_free]
  decide +kernel
theorem v_first5 : place_First.f 60 few 5 1 12 = some (-1, false) := by
  rw [first_f _ _ _ _ _ (by decide), fst _ _ _ _ _ few_free]
  decide +kernel
theorem v_first0 : place_First.f 60 [] 0 9 0 = some (0, true) := by
  rw [first_f _ _ _ _ _ (by decide)]
  rfl
theorem v_firstn : place_First.f 60 [] (-1) 1 5 = some (-1, false) := by
  rw [first_f _ _ _ _ _ (by decide)]
  rfl
theorem f2 : firstR few 2 1 12 = (4, true) := by
  rw [fst _ _ _ _ _ few_free]
  decide +kernel
theorem f4 : firstR [⟨0, 4⟩, ⟨6, 8⟩, ⟨4, 6⟩] 4 1 12 = (8, true) := by
  rw [fst _ _ _ _ _ few3]
  decide +kernel
theorem f1 : firstR [⟨0, 4⟩, ⟨6, 8⟩, ⟨4, 6⟩, ⟨8, 12⟩] 1 1 12 = (-1, false) := by
  rw [fst _ _ _ _ _ few4]
  decide +kernel
theorem v_fit2 : place_Fit.f 60 few [2, 4] 1 12 = some ([4, 8], 0) := by
  rw [fit_f _ _ _ _ _ (by decide) (by decide)]
  unfold fitR
  rw [if_pos (by decide +kernel), fitL, f2]
  simp only [if_true, List.cons_append, List.nil_append]
  rw [fitL]
  simp only [show ((4 : Int) + 2) = 6 from rfl]
  rw [f4]
  simp only [if_true]
  rw [fitL]
  rfl
theorem v_fit3 : place_Fit.f 60 few [2, 4, 1] 1 12 = some ([], 160) := by
  rw [fit_f _ _ _ _ _ (by decide) (by decide)]
  unfold fitR
  rw [if_pos (by decide +kernel), fitL, f2]
  simp only [if_true, List.cons_append, List.nil_append]
  rw [fitL]
  simp only [show ((4 : Int) + 2) = 6 from rfl]
  rw [f4]
  simp only [if_true, List.cons_append, List.nil_append]
  rw [fitL]
  simp only [show ((8 : Int) + 4) = 12 from rfl]
  rw [f1]
  rfl
theorem v_fit0 : place_Fit.f 60 [] [] 0 12 = some ([], 2) := by
  rw [fit_f _ _ _ _ _ (by decide) (by decide)]
  rfl
theorem v_free : place_Free.f 60 few 12 = some [⟨4, 6⟩, ⟨8, 12⟩] := by
  rw [free_f _ _ _ (by decide)]
  unfold freeR
  rw [few_free, if_pos (by decide +kernel)]
  rfl
theorem v_freen : place_Free.f 60 [] (-1) = some [] := by
  rw [free_f _ _ _ (by decide)]
  rfl
theorem v_most : place_Most.f 60 few 12 = some 4 := by
  rw [most_f _ _ _ (by decide) (by decide)]
  unfold freeR
  rw [few_free]
  decide +kernel
theorem v_few : rotalaw16_few.f = some few := rfl
set_option maxRecDepth 100000 in
set_option maxHeartbeats 16000000 in
theorem names_calls (w : World) : Calls Try.prog 8 #[] w fun e w' => e = .returned (.bool true) ∧ Below w.heap.size w w' := by
  have HB := Lib.hid (Below.refl w.heap.size w)
  go_enter Try.func8, Try.ntmps8
  go_wp2_with fail
  refine (rotalaw16_few.calls few _ v_few).mono ?_
  rintro e W ⟨v, rfl, hR, hb⟩
  obtain ⟨A, c, rfl, hc, hC⟩ := Kd.R_reads hR
  have HF := Lib.hid hC
  clear hR hC
  replace HB := Lib.hid (HB.out.trans (hb.mono HB.out.size))
  clear hb
  go_wp2_with fail
  refine (place_First.calls 60 A c few 3 1 12 8 true _ HF.out hc v_first3).mono ?_
  rintro e W ⟨rfl, hb⟩
  clear HF hc
  replace HB := Lib.hid (HB.out.trans (hb.mono HB.out.size))
  clear hb
  go_wp2_with fail
  refine (rotalaw16_few.calls few _ v_few).mono ?_
  rintro e W ⟨v, rfl, hR, hb⟩
  obtain ⟨A, c, rfl, hc, hC⟩ := Kd.R_reads hR
  have HF := Lib.hid hC
  clear hR hC
  replace HB := Lib.hid (HB.out.trans (hb.mono HB.out.size))
  clear hb
  go_wp2_with fail
  refine (place_First.calls 60 A c few 5 1 12 (-1) false _ HF.out hc v_first5).mono ?_
  rintro e W ⟨rfl, hb⟩
  clear HF hc
  replace HB := Lib.hid (HB.out.trans (hb.mono HB.out.size))
  clear hb
  go_wp2_with fail
  refine (rotalaw16_few.calls few _ v_few).mono ?_
  rintro e W ⟨v, rfl, hR, hb⟩
  obtain ⟨A, c, rfl, hc, hC⟩ := Kd.R_reads hR
  have HF := Lib.hid hC
  clear hR hC
  replace HB := Lib.hid (HB.out.trans (hb.mono HB.out.size))
  clear hb
  go_wp2_with fail
  have hi := two_ints 2 4 (blk_at W (Obj.cells #[.int .i64 2, .int .i64 4] 3))
  refine (place_Fit.calls 60 A c few _ 2 [2, 4] 1 12 [4, 8] 0 _ (Kd.C_alloc HF.out _) hc hi (Nat.le_refl _) v_fit2).mono ?_
  rintro e W2 ⟨v, rfl, hR, hb⟩
  replace hb := (Below.alloc (Below.refl _ _) (Nat.le_refl _) (Obj.cells #[.int .i64 2, .int .i64 4] 3)).trans (hb.mono (Nat.le_of_lt (by simp)))
  clear hi HF hc
  obtain ⟨Al, cl, rfl, -, hC⟩ := Kd.R_reads hR
  have HL := Lib.hid hC
  clear hR hC
  replace HB := Lib.hid (HB.out.trans (hb.mono HB.out.size))
  clear hb
  go_wp2_with fail
  refine (rotalaw16_few.calls few _ v_few).mono ?_
  rintro e W ⟨v, rfl, hR, hb⟩
  obtain ⟨A, c, rfl, hc, hC⟩ := Kd.R_reads hR
  have HF := Lib.hid hC
  clear hR hC
  replace HL := Lib.hid (Kd.C_below HL.out hb)
  replace HB := Lib.hid (HB.out.trans (hb.mono HB.out.size))
  clear hb
  go_wp2_with fail
  have hi := three_ints 2 4 1 (blk_at W (Obj.cells #[.int .i64 2, .int .i64 4, .int .i64 1] 3))
  refine (place_Fit.calls 60 A c few _ 3 [2, 4, 1] 1 12 [] 160 _ (Kd.C_alloc HF.out _) hc hi (Nat.le_refl _) v_fit3).mono ?_
  rintro e W2 ⟨v, rfl, hR, hb⟩
  replace hb := (Below.alloc (Below.refl _ _) (Nat.le_refl _) (Obj.cells #[.int .i64 2, .int .i64 4, .int .i64 1] 3)).trans (hb.mono (Nat.le_of_lt (by simp)))
  clear hi HF hc
  obtain ⟨A2, c2, rfl, -, -⟩ := Kd.R_reads hR
  clear hR
  replace HL := Lib.hid (Kd.C_below HL.out hb)
  replace HB := Lib.hid (HB.out.trans (hb.mono HB.out.size))
  clear hb
  go_wp2_with fail
  refine (place_Fit.calls 60 none 0 [] none 0 [] 0 12 [] 2 _ (Kd.C_nil _ _) (Nat.le_refl _) (Kd.C_nil _ _) (Nat.le_refl _) v_fit0).mono ?_
  rintro e W ⟨v, rfl, hR, hb⟩
  obtain ⟨A3, c3, rfl, -, -⟩ := Kd.R_reads hR
  clear hR
  replace HL := Lib.hid (Kd.C_below HL.out hb)
  replace HB := Lib.hid (HB.out.trans (hb.mono HB.out.size))
  clear hb
  go_wp2_with fail
  refine (rotalaw16_few.calls few _ v_few).mono ?_
  rintro e W ⟨v, rfl, hR, hb⟩
  obtain ⟨A, c, rfl, hc, hC⟩ := Kd.R_reads hR
  have HF := Lib.hid hC
  clear hR hC
  replace HL := Lib.hid (Kd.C_below HL.out hb)
  replace HB := Lib.hid (HB.out.trans (hb.mono HB.out.size))
  clear hb
  go_wp2_with fail
  refine (place_Free.calls 60 A c few 12 _ _ HF.out hc v_free).mono ?_
  rintro e W ⟨v, rfl, hR, hb⟩
  clear HF hc
  obtain ⟨Af, cf, rfl, -, hC⟩ := Kd.R_reads hR
  have HG := Lib.hid hC
  clear hR hC
  replace HL := Lib.hid (Kd.C_below HL.out hb)
  replace HB := Lib.hid (HB.out.trans (hb.mono HB.out.size))
  clear hb
  go_wp2_with fail
  refine (place_First.calls 60 none 0 [] 0 9 0 0 true _ (Kd.C_nil _ _) (Nat.le_refl _) v_first0).mono ?_
  rintro e W ⟨rfl, hb⟩
  replace HL := Lib.hid (Kd.C_below HL.out hb)
  replace HG := Lib.hid (Kd.C_below HG.out hb)
  replace HB := Lib.hid (HB.out.trans (hb.mono HB.out.size))
  clear hb
  go_wp2_with fail
  refine (place_First.calls 60 none 0 [] (-1) 1 5 (-1) false _ (Kd.C_nil _ _) (Nat.le_refl _) v_firstn).mono ?_
  rintro e W ⟨rfl, hb⟩
  replace HL := Lib.hid (Kd.C_below HL.out hb)
  replace HG := Lib.hid (Kd.C_below HG.out hb)
  replace HB := Lib.hid (HB.out.trans (hb.mono HB.out.size))
  clear hb
  go_wp2_with fail
  refine (place_Free.calls 60 none 0 [] (-1) _ _ (Kd.C_nil _ _) (Nat.le_refl _) v_freen).mono ?_
  rintro e W ⟨v, rfl, hR, hb⟩
  obtain ⟨A4, c4, rfl, -, -⟩ := Kd.R_reads hR
  clear hR
  replace HL := Lib.hid (Kd.C_below HL.out hb)
  replace HG := Lib.hid (Kd.C_below HG.out hb)
  replace HB := Lib.hid (HB.out.trans (hb.mono HB.out.size))
  clear hb
  go_wp2_with fail
  refine (rotalaw16_alive.calls 60 true _ (alive_f 60)).mono ?_
  rintro e W ⟨rfl, hb⟩
  replace HL := Lib.hid (Kd.C_below HL.out hb)
  replace HG := Lib.hid (Kd.C_below HG.out hb)
  replace HB := Lib.hid (HB.out.trans (hb.mono HB.out.size))
  clear hb
  obtain ⟨al, rfl, l0⟩ := Kd.at_int HL.out 0 (by decide) (by decide)
  obtain ⟨al', el, l1⟩ := Kd.at_int HL.out 1 (by decide) (by decide)
  cases el
  obtain ⟨ag, rfl, g0, g1⟩ := at_T30 HG.out 0 (by decide) (by decide)
  obtain ⟨ag', eg, g2, g3⟩ := at_T30 HG.out 1 (by decide) (by decide)
  cases eg
  have el0 : al.add 0 = al := by cases al; simp [Addr.add]
  have eg0 : ag.add 0 = ag := by cases ag; simp [Addr.add]
  replace l0 : W.cell? al = some (.int .i64 4) := by rw [← el0]; exact l0
  replace l1 : W.cell? { block := al.block, off := al.off + 1 } = some (.int .i64 8) := l1
  replace g0 : W.cell? ag = some (.int .i64 4) := by rw [← eg0]; exact g0
  replace g1 : W.cell? { block := ag.block, off := ag.off + 1 } = some (.int .i64 6) := g1
  replace g2 : W.cell? { block := ag.block, off := ag.off + 2 } = some (.int .i64 8) := g2
  replace g3 : W.cell? { block := ag.block, off := ag.off + 2 + 1 } = some (.int .i64 12) := g3
  clear el0 eg0
  go_wp2_with fail
  refine (rotalaw16_few.calls few _ v_few).mono ?_
  rintro e W ⟨v, rfl, hR, hb⟩
  clear HL HG l0 l1 g0 g1 g2 g3
  obtain ⟨A, c, rfl, hc, hC⟩ := Kd.R_reads hR
  have HF := Lib.hid hC
  clear hR hC
  replace HB := Lib.hid (HB.out.trans (hb.mono HB.out.size))
  clear hb
  go_wp2_with fail
  refine (place_Most.calls 60 A c few 12 4 _ HF.out hc v_most).mono ?_
  rintro e W ⟨rfl, hb⟩
  clear HF hc
  replace HB := Lib.hid (HB.out.trans (hb.mono HB.out.size))
  clear hb
  go_wp2_with fail
  go_ret
  exact ⟨rfl, HB.out⟩
end Names
end Go.Proofs.Ytnbcnkpcmjkglaa
