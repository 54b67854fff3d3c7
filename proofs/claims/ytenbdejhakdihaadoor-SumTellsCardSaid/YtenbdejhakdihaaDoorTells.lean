/- The walk of SumTells: any bytes' sum, More of them, and the table at each of them, are the document's; the bytes stay. -/
import Derived.Test.YtenbdejhakdihaaDoorRef
import Derived.Test.YtenbdejhakdihaaDoorSTab
import Derived.Test.YtenbdejhakdihaaDoorPx0
namespace Go.Proofs.YtenbdejhakdihaaDoor
open Go.RowKit Go.Proofs.YtenbdejhakdihaaDoorW.PrintWords Go.Proofs.YtenbdejhakdihaaDoorW.PrintLast Go.Proofs.YtenbdejhakdihaaDoor.Px

theorem setRow_alloc_old (w : World) (o : Obj) (cs : Array Value) {g : Nat} (hg : g < w.heap.size) : (w.alloc o).setRow g cs = (w.setRow g cs).alloc o := by
  unfold World.setRow World.alloc
  congr 1
  apply Array.ext
  · simp
  · intro i h1 h2
    simp only [Array.getElem_modify, Array.getElem_push, Array.size_modify]
    by_cases hi : i < w.heap.size
    · simp [hi, Array.getElem_modify]
    · have : i ≠ g := by omega
      simp [hi, Ne.symm this]

set_option maxRecDepth 100000 in
set_option maxHeartbeats 1600000 in
theorem sumTells_walk (w : World) (A0 : Option Addr) (c0 : Nat) (l0 : List Int) (hr0 : Kd.C (Kd.int .u8) w A0 l0.length l0) (hc0 : l0.length ≤ c0) (hl0 : l0.length * 1 ≤ 140737488351232) (hw0 : ∀ x ∈ l0, (Lit.int .u8 x).wf = true)
    (a1 : Int) (w1 : (Lit.int .u32 a1).wf = true) (hN : NibsAt w) :
    Calls Tryd.prog 7 #[.slice A0 l0.length c0, .int .u32 a1] w fun e w' => e = .returned (.bool true) ∧ Below w.heap.size w w' := by
  obtain ⟨b1, b1'⟩ := bounds_u32 w1
  obtain ⟨s, rfl⟩ := Int.eq_ofNat_of_zero_le b1
  have hs : s < 4294967296 := by omega
  rw [Nat.mul_one] at hl0
  have HR := Lib.hid hr0
  have HW := Lib.hid (bytes_wf hw0)
  have HN := Lib.hid hN
  clear hr0 hw0 hN w1 b1 b1'
  by_cases hbig : (100000 : Int) < (l0.length : Int)
  · go_enter Tryd.func7, Tryd.ntmps7
    go_wp2
    go_ret
    exact ⟨rfl, Below.refl _ _⟩
  · have hmx := umax
    have hsg := usigned
    have hz := zero34
    have h1 : tabCells.all (·.oneCell') = true := by rw [Array.all_eq_true_iff_forall_mem]; intro x hx; simp [tabCells] at hx; obtain ⟨j, _, rfl⟩ := hx; rfl
    have hsz : tabCells.size = 256 := by simp [tabCells]
    have hst : ∀ W : World, (storeCells ⟨W.heap.size, 0, none⟩ tabCells.toList).run Tryd.prog ((W.alloc (.cells (Array.replicate 256 (.int .u32 0)) 34)).alloc (.cells (Array.replicate 256 (.int .u32 0)) 34)) = .ok () ((W.alloc (.cells tabCells 34)).alloc (.cells (Array.replicate 256 (.int .u32 0)) 34)) := fun W => by
      rw [run_storeCells_row (P := Tryd.prog) _ W.heap.size 34 (Array.replicate 256 (.int .u32 0)) tabCells ((heap_alloc_old (W.alloc (.cells (Array.replicate 256 (.int .u32 0)) 34)) _ (by simp)).trans (heap_alloc_new W _)) (by rw [hsz]; simp) h1]
      rw [setRow_alloc_old _ _ _ (by simp), World.setRow_alloc_new]
    have hst2 : ∀ W : World, (storeCells ⟨W.heap.size + 1, 0, none⟩ tabCells.toList).run Tryd.prog ((W.alloc (.cells tabCells 34)).alloc (.cells (Array.replicate 256 (.int .u32 0)) 34)) = .ok () ((W.alloc (.cells tabCells 34)).alloc (.cells tabCells 34)) := fun W => by
      have hn := heap_alloc_new (W.alloc (.cells tabCells 34)) (.cells (Array.replicate 256 (.int .u32 0)) 34)
      have hs := World.setRow_alloc_new (W.alloc (.cells tabCells 34)) (Array.replicate 256 (.int .u32 0)) tabCells 34
      rw [World.size_alloc] at hn hs
      rw [run_storeCells_row (P := Tryd.prog) _ (W.heap.size + 1) 34 (Array.replicate 256 (.int .u32 0)) tabCells hn (by rw [hsz]; simp) h1, hs]
    have hB0 := Below.refl w.heap.size w
    go_enter Tryd.func7, Tryd.ntmps7
    go_wp2_with (first | ((with_reducible refine gate_dst (N := 12) rfl ?_); refine Kd.R_lit (Kd.int .u8) _ 5 ?hg (N := 12) ?hd (xs := ([] : List Int)) (inner := []) (ok := fun _ => True) (okp := fun _ => True) ?hr ?hp (fun _ hk => hk) trivial (Below.refl _ _) (Nat.le_refl _) (by simp) ?_; (case hd => rfl); (case hg => rfl); (case hr => first | (go_simp; done) | (go_simp; rfl)); (case hp => exact (Reps.none _ _)); intro v118 w10 ho11 hb hg_ hnew_; clear hg_ hnew_) | ((with_reducible refine gate_builtin (b := .append) (xs := #[.tmp 12, .tmp 13]) rfl ?_); at_builtin; refine Kd.R_append_rows (Kd.int .u8) (w0 := w) w.heap.size rfl (.tmp 12) (.tmp 13) 22 5 (.int .u8 0) 1 rfl Tryd.underlying22 info5 rfl (by decide) (by omega) v118 [] l0 _ _ _ (fun _ => True) (fun _ => False) rfl rfl ?aO ?aR (fun _ _ h => h) (fun _ h => h.elim) ?aF ?aB ?aS ?aL ?_; (case aR => exact Kd.C_below HR.out hb); (case aB => exact hb); (case aF => exact (fun _ _ => trivial)); (case aO => exact ho11); (case aS => exact below_size hb); (case aL => simp; omega); intro v121 w12 ho hb2 hg hat; clear hat hg ho11 hb) | (go_at_call 15; refine (table_calls _).mono ?_; rintro e w13 ⟨rfl, hb3⟩) | (go_at_call 16; refine (refTable_calls _).mono ?_; rintro e w14 ⟨rfl, hb4⟩))
    obtain ⟨A1, c1, rfl, hc1, hr1⟩ := Kd.R_reads ho
    rw [List.nil_append] at hc1 hr1
    have hr1' := Kd.C_below hr1 (below_step hb3 hb4)
    have hb5 : Below w.heap.size w w14 := below_step (below_step hb2 hb3) hb4
    clear hst hst2 hz hb2 hb3 hb4 ho hr1 h1 hB0
    have hbW := (hb5.alloc hb5.size (.cells tabCells 34)).alloc (by have := hb5.size; simp; omega) (.cells tabCells 34)
    have hrW := Kd.C_alloc (Kd.C_alloc hr1' (.cells tabCells 34)) (.cells tabCells 34)
    have htab1 : ∀ i : Nat, i < 256 → ((w14.alloc (.cells tabCells 34)).alloc (.cells tabCells 34)).cell? ⟨w14.heap.size, i, none⟩ = some (.int .u32 (Crc.stepN 8 i : Nat)) := fun i hi => tab_cell _ _ ((heap_alloc_old _ _ (by simp)).trans (heap_alloc_new w14 _)) i hi
    have htab2 : ∀ i : Nat, i < 256 → ((w14.alloc (.cells tabCells 34)).alloc (.cells tabCells 34)).cell? ⟨w14.heap.size + 1, i, none⟩ = some (.int .u32 (Crc.stepN 8 i : Nat)) := fun i hi => tab_cell _ _ (by have := heap_alloc_new (w14.alloc (.cells tabCells 34)) (.cells tabCells 34); rw [World.size_alloc] at this; exact this) i hi
    clear hr1' hb5
    generalize ((w14.alloc (.cells tabCells 34)).alloc (.cells tabCells 34)) = W at hbW hrW htab1 htab2 ⊢
    generalize w14.heap.size = B at htab1 htab2 ⊢
    rw [List.nil_append]
    have HB := Lib.hid hbW
    have HR1 := Lib.hid hrW
    have T1 := Lib.hid htab1
    have T2 := Lib.hid htab2
    clear hbW hrW htab1 htab2
    go_loopw [19] (fun i wr => ∃ x : Int, i = .int .i64 x ∧ 0 ≤ x ∧ x ≤ (l0.length : Int) ∧ Hid (∃ n, wr = W.drewN n)) (fun i _ => l0.length - (intOf i).toNat)
    case atStart => exact ⟨0, rfl, by omega, by omega, Lib.hid ⟨0, rfl⟩⟩
    case round =>
      obtain ⟨x, rfl, hx0, hx1, HD⟩ := hrel
      obtain ⟨nd, rfl⟩ := HD.out
      clear HD
      by_cases hx : x < (l0.length : Int)
      · obtain ⟨ad, ead, hcell⟩ := Kd.at_int (Kd.C_below HR.out HB.out) x (by omega) (by omega)
        cases ead
        obtain ⟨c, hc, hcb⟩ : ∃ c : Nat, rd l0 x = (c : Int) ∧ c < 256 := by
          have := HW.out (rd l0 x) (by
            unfold rd
            rw [List.getD_eq_getElem?_getD, List.getElem?_eq_getElem (by omega)]
            simp)
          exact ⟨(rd l0 x).toNat, by omega, by omega⟩
        rw [hc] at hcell
        clear hc
        have t1 := T1.out c hcb
        have t2 := T2.out c hcb
        have k0 : (0 : Int) ≤ (c : Int) := by omega
        have k1 : (c : Int) < 256 := by omega
        go_wp2_with fail
        go_quiet (fail)
        go_wp2
        go_roundw
        case rel => exact ⟨x + 1, rfl, by omega, by omega, Lib.hid ⟨_, rfl⟩⟩
        case measure => simp [intOf]; omega
      · have hlen : l0.length ≤ 140737488355328 := by omega
        have hNW : NibsAt (W.drewN nd) := (HN.out.below HB.out).drewN nd
        have hRW := Kd.C_drewN HR1.out nd
        have hBW := Kd.C_drewN (Kd.C_below HR.out HB.out) nd
        have g1 := Lib.hid (sum_calls (W.drewN nd) A1 c1 l0 hRW hc1 hlen hNW HW.out)
        have g2 := Lib.hid (refSum_calls (W.drewN nd) A0 c0 l0 hBW hc0 hlen HW.out)
        go_wp2_with fail
        refine g1.out.mono ?_
        rintro e w' ⟨rfl, rfl⟩
        go_wp2_with fail
        refine g2.out.mono ?_
        rintro e w' ⟨rfl, ⟨m1, rfl⟩⟩
        have g3 := Lib.hid (more_calls s ((W.drewN nd).drewN m1) A1 c1 l0 (Kd.C_drewN hRW m1) hs hc1 hlen (hNW.drewN m1) HW.out)
        have g4 := Lib.hid (refMore_calls s ((W.drewN nd).drewN m1) A0 c0 l0 (Kd.C_drewN hBW m1) hs hc0 hlen HW.out)
        rw [World.drewN_drewN] at g3 g4
        go_wp2_with fail
        refine g3.out.mono ?_
        rintro e w' ⟨rfl, rfl⟩
        go_wp2_with fail
        refine g4.out.mono ?_
        rintro e w' ⟨rfl, ⟨m2, rfl⟩⟩
        rw [World.drewN_drewN]
        have q1 := fun k => Kd.C_string Tryd.underlying22 Tryd.underlying5 Tryd.underlying9 (Kd.C_drewN HR1.out k) (c := c1)
        have q2 := fun k => Kd.C_string Tryd.underlying22 Tryd.underlying5 Tryd.underlying9 (Kd.C_drewN (Kd.C_below HR.out HB.out) k) (c := c0)
        go_wp2
        go_ret
        exact ⟨rfl, pw_below_drewN HB.out _⟩
end Go.Proofs.YtenbdejhakdihaaDoor
