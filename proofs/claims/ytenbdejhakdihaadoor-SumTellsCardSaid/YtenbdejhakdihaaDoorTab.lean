/- The walks of the two tables of sums. -/
import Derived.Test.YtenbdejhakdihaaDoorParts
import Derived.Laws.Tables
import Derived.Deep.WholeRow
import Derived.Laws.CopyOwn
namespace Go.Proofs.YtenbdejhakdihaaDoor
open Go.RowKit Go.Proofs.YtenbdejhakdihaaDoorW.PrintWords Go.Proofs.YtenbdejhakdihaaDoorW.PrintLast

theorem zero34 (w : World) : (zeroValue 34).run Tryd.prog w = .ok (.agg (Array.replicate 256 (.int .u32 0))) w := by kernel_rfl
theorem step_facts (n : Nat) (hn : n < 4294967296) : ∃ b p m : Nat, b < 2 ∧ bits .and .u32 (n : Int) 1 = (b : Int) ∧ IntKind.u32.wrap ((b : Int) * 3988292384) = (p : Int) ∧ bits .xor .u32 ((n : Int) / 2) (p : Int) = (m : Int) ∧ m = Crc.step n ∧ m < 4294967296 := by
  refine ⟨n % 2, n % 2 * 3988292384, n / 2 ^^^ n % 2 * 3988292384, by omega, ?_, by rw [IntKind.wrap_u32]; omega, ?_, ?_, Nat.xor_lt_two_pow (n := 32) (by omega) (by omega)⟩
  · have := u32_and_nat n 1 hn (by decide)
    rw [nat_mask1] at this
    simpa using this
  · have := u32_xor_nat (n / 2) (n % 2 * 3988292384) (by omega) (by omega)
    rw [show ((n / 2 : Nat) : Int) = (n : Int) / 2 from by omega] at this
    exact this
  · unfold Crc.step
    split
    · rename_i h; rw [h, Nat.one_mul]
    · rename_i h; rw [show n % 2 = 0 by omega, Nat.zero_mul, Nat.xor_zero]
/-- A row of the table, the first i numbers told. -/
def TabTo (w : World) (g t : Nat) (i : Nat) : Prop := ∃ cs : Array Value, w.heap[g]? = some (.cells cs t (0, 0)) ∧ cs.size = 256 ∧ (∀ j : Nat, j < i → cs[j]? = some (.int .u32 (Crc.stepN 8 j : Nat))) ∧ cs.all (·.oneCell') = true
theorem TabTo.cell {w : World} {g t i : Nat} (h : TabTo w g t i) {j : Nat} (hj : j < 256) : ∃ v, w.cell? ⟨g, j, none⟩ = some v ∧ v.oneCell' = true := by
  obtain ⟨cs, hg, hs, _, h1⟩ := h
  refine ⟨cs[j], ?_, (Array.all_eq_true_iff_forall_mem.1 h1) _ (Array.getElem_mem _)⟩
  rw [cell_of_row w g j cs t (0, 0) hg, Array.getElem?_eq_getElem (by omega)]
theorem TabTo.frozen {w : World} {g t i : Nat} (h : TabTo w g t i) (j : Nat) : w.frozen? ⟨g, j, none⟩ = false := by
  obtain ⟨cs, hg, _⟩ := h
  exact frozen_of_row w g j cs t hg
theorem TabTo.set {w : World} {g t i : Nat} (h : TabTo w g t i) (hi : i < 256) : TabTo (w.setCell ⟨g, i, none⟩ (.int .u32 (Crc.stepN 8 i : Nat))) g t (i + 1) := by
  obtain ⟨cs, hg, hs, hc, h1⟩ := h
  refine ⟨cs.setIfInBounds i (.int .u32 (Crc.stepN 8 i : Nat)), heap_setCell_same w g i cs t _ hg, by simp [hs], ?_, ?_⟩
  · intro j hj
    by_cases e : j = i
    · subst e; simp [hs, hi]
    · rw [Array.getElem?_setIfInBounds_ne (by omega)]; exact hc j (by omega)
  · rw [Array.all_eq_true_iff_forall_mem] at h1 ⊢
    intro x hx
    rcases Array.mem_or_eq_of_mem_setIfInBounds hx with hx | hx
    · exact h1 x hx
    · rw [hx]; rfl
/-- The table's value. -/
def tabCells : Array Value := ((List.range 256).map fun j => Value.int .u32 (Crc.stepN 8 j : Nat)).toArray
theorem TabTo.full {w : World} {g t : Nat} (h : TabTo w g t 256) : w.heap[g]? = some (.cells tabCells t (0, 0)) := by
  obtain ⟨cs, hg, hs, hc, _⟩ := h
  have : cs = tabCells := by
    apply Array.ext
    · simp [tabCells, hs]
    · intro i h1 h2
      have := hc i (by omega)
      rw [Array.getElem?_eq_getElem (by omega)] at this
      have := Option.some.inj this
      rw [this]; simp [tabCells]
  rw [← this]; exact hg

theorem run_storeCells_row {P : Program} (w : World) (g : Nat) (t : TypeId) (old cells : Array Value) (hg : w.heap[g]? = some (.cells old t (0, 0)))
    (ho : old.size = cells.size) (h1 : cells.all (·.oneCell') = true) : (storeCells ⟨g, 0, none⟩ cells.toList).run P w = .ok () (w.setRow g cells) := by
  have := run_storeCells_from (P := P) g t cells.toList 0 old w hg (by simp; omega) (fun v hv => (Array.all_eq_true_iff_forall_mem.1 h1) v (by simpa using hv))
  rw [this]
  simp

set_option maxRecDepth 100000 in
set_option maxHeartbeats 400000 in
theorem table_calls (w : World) : Calls Tryd.prog 15 #[] w fun e w' => e = .returned (.agg tabCells) ∧ Below w.heap.size w w' := by
  have hz := zero34
  go_enter Tryd.func15, Tryd.ntmps15
  go_wp2
  go_loopw [1, 2, 3, 8] (fun _ _ i _ wr => ∃ x : Nat, i = .int .i64 (x : Int) ∧ x ≤ 256 ∧ Hid (TabTo wr w.heap.size 34 x) ∧ Hid (Below w.heap.size w wr)) (fun _ _ i _ _ => 256 - (intOf i).toNat)
  case atStart => exact ⟨0, rfl, by omega, Lib.hid ⟨_, heap_alloc_new w _, by simp, fun j hj => by omega, by rw [Array.all_eq_true_iff_forall_mem]; intro x hx; rw [Array.eq_of_mem_replicate hx]; rfl⟩, Lib.hid ((Below.refl _ _).alloc (Nat.le_refl _) _)⟩
  case round =>
    obtain ⟨x, rfl, hx, HT, HB⟩ := hrel
    by_cases hlt : x < 256
    · have e0 : IntKind.u32.wrap (x : Int) = (x : Int) := by rw [IntKind.wrap_u32]; omega
      go_wp2
      go_loop [2, 8] (fun a i => ∃ n y : Nat, a = .int .u32 (n : Int) ∧ n < 4294967296 ∧ i = .int .i64 (y : Int) ∧ y ≤ 8 ∧ Hid (n = Crc.stepN y x)) (fun _ i => 8 - (intOf i).toNat)
      case atStart => exact ⟨x, 0, rfl, by omega, rfl, by omega, Lib.hid rfl⟩
      case round =>
        obtain ⟨n, y, rfl, hn, rfl, hy, HN⟩ := hrel
        by_cases hy8 : y < 8
        · obtain ⟨b, p, m, hb2, e1, e2, e3, hm, hmlt⟩ := step_facts n hn
          have HM := Lib.hid (show m = Crc.stepN (y + 1) x by rw [hm, HN.out]; exact (Crc.stepN_add 1 y x).symm)
          clear hm
          go_wp2
          go_round
          case rel => exact ⟨m, y + 1, rfl, hmlt, by go_num, by omega, HM⟩
          case measure => simp [intOf]; omega
        · obtain rfl : y = 8 := by omega
          have hn8 : n = Crc.stepN 8 x := HN.out
          subst hn8
          obtain ⟨v, hc, hv1⟩ := HT.out.cell hlt
          have hf := HT.out.frozen x
          have HT2 := Lib.hid (HT.out.set hlt)
          have HB2 := Lib.hid (HB.out.setCell (p := ⟨w.heap.size, x, none⟩) (Nat.le_refl _) (.int .u32 (Crc.stepN 8 x : Nat)))
          go_wp2
          go_roundw
          case rel => exact ⟨x + 1, by go_num, by omega, HT2, HB2⟩
          case measure => simp [intOf]; omega
    · obtain rfl : x = 256 := by omega
      have hfull := HT.out.full
      have HB := HB.out
      have h1 : tabCells.all (·.oneCell') = true := by rw [Array.all_eq_true_iff_forall_mem]; intro x hx; simp [tabCells] at hx; obtain ⟨j, _, rfl⟩ := hx; rfl
      have hsz : tabCells.size = 256 := by simp [tabCells]
      have hst := run_storeCells_row (P := Tryd.prog) wr w.heap.size 34 tabCells tabCells hfull rfl h1
      go_wp2_with fail
      refine wp_load_row 34 _ rfl w.heap.size rfl 34 tabCells (0, 0) _ hfull Tryd.underlying34 rfl (by rw [hsz]; kernel_rfl) ?_
      have hfull2 := setRow_heap wr w.heap.size tabCells tabCells 34 (0, 0) hfull
      have hb2 := below_setRow HB (Nat.le_refl _) tabCells
      go_wp2_with fail
      exact bodyPost_ret (v := .agg tabCells) (results_cell_row (p := 0) (ty := 34) rfl _ _ w.heap.size 34 tabCells (0, 0) _ rfl hfull2 Tryd.underlying34 rfl (by rw [hsz]; kernel_rfl)) rfl ⟨rfl, hb2⟩
end Go.Proofs.YtenbdejhakdihaaDoor
