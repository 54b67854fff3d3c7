/- The walk of SumTable: a byte behind others turns their sum as the table says. -/
import Derived.Test.YtenbdejhakdihaaDoorTab
namespace Go.Proofs.YtenbdejhakdihaaDoor
open Go.RowKit Go.Proofs.YtenbdejhakdihaaDoorW.PrintWords Go.Proofs.YtenbdejhakdihaaDoorW.PrintLast

theorem div_xor (a b : Nat) : (a ^^^ b) / 256 = a / 256 ^^^ b / 256 := by
  have := Nat.shiftRight_xor_distrib (a := a) (b := b) (i := 8)
  simpa [Nat.shiftRight_eq_div_pow] using this
theorem one_byte (s c : Nat) (hc : c < 256) : more s [(c : Int)] = 4294967295 ^^^ ((4294967295 ^^^ s) / 256 ^^^ Crc.stepN 8 ((4294967295 ^^^ s) % 256 ^^^ c)) := by
  show 4294967295 ^^^ Crc.stepN 8 ((4294967295 ^^^ s) ^^^ (c : Int).toNat) = _
  rw [Int.toNat_natCast, Crc.table_byte, div_xor, show c / 256 = 0 by omega, Nat.xor_zero, Nat.xor_mod_two_pow (n := 8), show c % 2 ^ 8 = c by omega]
theorem tab_cell (w : World) (g : Nat) (hg : w.heap[g]? = some (.cells tabCells 34 (0, 0))) (i : Nat) (hi : i < 256) : w.cell? ⟨g, i, none⟩ = some (.int .u32 (Crc.stepN 8 i : Nat)) := by
  rw [cell_of_row w g i tabCells 34 (0, 0) hg]
  simp [tabCells, hi]
theorem C_one (w : World) (c : Int) : Kd.C (Kd.int .u8) (w.alloc (.cells #[.int .u8 c] 5)) (some ⟨w.heap.size, 0, none⟩) 1 [c] := C_new .u8 w [c] 5 (0, 0) (by simp)

set_option maxRecDepth 100000 in
set_option maxHeartbeats 800000 in
theorem sumTable_walk (w : World) (a0 : Int) (w0 : (Lit.int .u32 a0).wf = true) (a1 : Int) (w1 : (Lit.int .u8 a1).wf = true) (hN : NibsAt w) :
    Calls Tryd.prog 8 #[.int .u32 a0, .int .u8 a1] w fun e w' => e = .returned (.bool true) ∧ Below w.heap.size w w' := by
  have HA := Lib.hid (alive_calls w hN)
  have b0 := bounds_u32 w0
  have b1 := bounds_u8 w1
  obtain ⟨s, rfl⟩ := Int.eq_ofNat_of_zero_le b0.1
  obtain ⟨c, rfl⟩ := Int.eq_ofNat_of_zero_le b1.1
  have hs : s < 4294967296 := by omega
  have hc : c < 256 := by omega
  have HN := Lib.hid hN
  clear hN w0 w1 b0 b1
  obtain ⟨m1, em1, hm1, hm1'⟩ := not_facts s hs
  have HM1 := Lib.hid hm1
  clear hm1
  have hmx := umax
  have hsg := usigned
  have hz := zero34
  have h1 : tabCells.all (·.oneCell') = true := by rw [Array.all_eq_true_iff_forall_mem]; intro x hx; simp [tabCells] at hx; obtain ⟨j, _, rfl⟩ := hx; rfl
  have hsz : tabCells.size = 256 := by simp [tabCells]
  have hst : ∀ W : World, (storeCells ⟨W.heap.size, 0, none⟩ tabCells.toList).run Tryd.prog (W.alloc (.cells (Array.replicate 256 (.int .u32 0)) 34)) = .ok () (W.alloc (.cells tabCells 34)) := fun W => by
    rw [run_storeCells_row (P := Tryd.prog) _ W.heap.size 34 (Array.replicate 256 (.int .u32 0)) tabCells (heap_alloc_new W _) (by rw [hsz]; simp) h1, World.setRow_alloc_new]
  have H1 := Lib.hid h1
  have HZ := Lib.hid hsz
  clear h1
  go_enter Tryd.func8, Tryd.ntmps8
  go_wp2_with fail
  refine HA.out.mono ?_
  rintro e w1 ⟨rfl, hb1⟩
  go_wp2_with fail
  refine (table_calls w1).mono ?_
  rintro e w2 ⟨rfl, hb2⟩
  have hb : Below w.heap.size w w2 := below_step hb1 hb2
  clear hb1 hb2 HA
  go_wp2_with fail
  obtain ⟨x1, hx1, hx1'⟩ : ∃ x : Nat, x = m1 % 256 ∧ x < 256 := ⟨_, rfl, Nat.mod_lt _ (by decide)⟩
  have e2 : IntKind.u8.wrap (m1 : Int) = (x1 : Int) := by rw [IntKind.wrap_u8]; omega
  obtain ⟨i, hi, hi'⟩ : ∃ x : Nat, x = x1 ^^^ c ∧ x < 256 := ⟨_, rfl, Nat.xor_lt_two_pow (n := 8) hx1' hc⟩
  have e3 : bits .xor .u8 (x1 : Int) (c : Int) = (i : Int) := by rw [u8_xor_nat _ _ hx1' hc, hi]
  obtain ⟨t, ht, ht'⟩ : ∃ x : Nat, x = Crc.stepN 8 i ∧ x < 4294967296 := ⟨_, rfl, Crc.stepN_lt 8 _ (by omega)⟩
  have hcell : (w2.alloc (.cells tabCells 34)).cell? ⟨w2.heap.size, i, none⟩ = some (.int .u32 (t : Int)) := by rw [ht]; exact tab_cell _ _ (heap_alloc_new w2 _) i hi'
  obtain ⟨q, hq, hq'⟩ : ∃ x : Nat, x = m1 / 256 ^^^ t ∧ x < 4294967296 := ⟨_, rfl, Nat.xor_lt_two_pow (n := 32) (by omega) ht'⟩
  have e4 : bits .xor .u32 ((m1 : Int) / 256) (t : Int) = (q : Int) := by
    have := u32_xor_nat (m1 / 256) t (by omega) ht'
    rw [show ((m1 / 256 : Nat) : Int) = (m1 : Int) / 256 from by omega, ← hq] at this
    exact this
  obtain ⟨r, e5, hr, hr'⟩ := not_facts q hq'
  have hfin : more s [(c : Int)] = r := by rw [one_byte s c hc, hr, hq, ht, hi, hx1, HM1.out]
  have HF := Lib.hid hfin
  have hbW := hb.alloc hb.size (.cells tabCells 34)
  obtain ⟨W, hW⟩ : ∃ W : World, w2.alloc (.cells tabCells 34) = W := ⟨_, rfl⟩
  rw [hW] at hbW hcell ⊢
  have HB := Lib.hid hbW
  clear hx1 hi ht hq hr hfin hbW hst hz
  have HWW := Lib.hid hW
  clear hW
  have i0 : (0 : Int) ≤ (i : Int) := by omega
  have i1 : (i : Int) < 256 := by omega
  have hcall : Calls Tryd.prog 12 #[.int .u32 s, .slice (some ⟨W.heap.size, 0, none⟩) 1 1] (W.alloc (.cells #[.int .u8 (c : Int)] 5)).drew fun e w' => e = .returned (.int .u32 (r : Int)) ∧ (W.alloc (.cells #[.int .u8 (c : Int)] 5)).drew = w' := by
    have hN : NibsAt (W.alloc (.cells #[.int .u8 (c : Int)] 5)).drew := (HN.out.below HB.out).below (below_drew ((Below.refl _ _).alloc (Nat.le_refl _) _))
    have := more_calls s (W.alloc (.cells #[.int .u8 (c : Int)] 5)).drew _ 1 [(c : Int)] (Kd.C_drew (C_one W (c : Int))) hs (by simp) (by simp) hN (by intro x hx; simp at hx; omega)
    rw [HF.out] at this
    exact this
  have HC := Lib.hid hcall
  clear hcall
  go_region_held3 (fun w' => w'.cell? ⟨w2.heap.size, i, none⟩ = some (.int .u32 (t : Int))) (go_keep) (first | (go_at_call 12; refine HC.out.mono ?_; rintro e w' ⟨rfl, rfl⟩))
  have hbf := (HB.out.alloc HB.out.size (.cells #[.int .u8 (c : Int)] 5))
  go_wp2
  go_ret
  exact ⟨rfl, below_drew hbf⟩
end Go.Proofs.YtenbdejhakdihaaDoor
