/- The reference's sums: what steps, More and Sum of rotaref01 answer, and its table. -/
import Derived.Test.YtenbdejhakdihaaDoorPy1
import Derived.Test.YtenbdejhakdihaaDoorTab
namespace Go.Proofs.YtenbdejhakdihaaDoor
open Go.RowKit Go.Proofs.YtenbdejhakdihaaDoor.Py Go.Proofs.YtenbdejhakdihaaDoorW.PrintWords Go.Proofs.YtenbdejhakdihaaDoorW.PrintLast

theorem wrap_in (x : Int) (h0 : -9223372036854775808 ≤ x) (h1 : x ≤ 9223372036854775807) : wrap64 x = x := by unfold wrap64; omega
theorem not_sub (x : Nat) (hx : x < 4294967296) : 4294967295 ^^^ x = 4294967295 - x := by
  apply Nat.eq_of_testBit_eq
  intro i
  rw [show 4294967295 - x = 2 ^ 32 - (x + 1) by omega, Nat.testBit_two_pow_sub_succ (n := 32) (by omega), Nat.testBit_xor, show (4294967295 : Nat) = 2 ^ 32 - 1 by rfl, Nat.testBit_two_pow_sub_one]
  by_cases hi : i < 32
  · simp [hi]
  · have : x.testBit i = false := Nat.testBit_lt_two_pow (Nat.lt_of_lt_of_le hx (Nat.pow_le_pow_right (n := 2) (i := 32) (j := i) (by decide) (by omega)))
    simp [hi, this]
theorem not_sub_int (x : Nat) (hx : x < 4294967296) : (4294967295 - (x : Int)) % 4294967296 = ((4294967295 ^^^ x : Nat) : Int) := by
  rw [not_sub x hx]; omega
theorem steps_loop : ∀ (d k i n : Nat), 8 - i = d → i ≤ 8 → d < k → n < 4294967296 → rotaref01_steps.l0 k (n : Int) (i : Int) = some ((Crc.stepN (8 - i) n : Nat) : Int) := by
  intro d
  induction d with
  | zero =>
    intro k i n hd hi hk hn
    obtain ⟨k, rfl⟩ : ∃ m, k = m + 1 := ⟨k - 1, by omega⟩
    obtain rfl : i = 8 := by omega
    simp only [rotaref01_steps.l0]
    rw [if_neg (by omega)]; rfl
  | succ d ih =>
    intro k i n hd hi hk hn
    obtain ⟨k, rfl⟩ : ∃ m, k = m + 1 := ⟨k - 1, by omega⟩
    simp only [rotaref01_steps.l0]
    rw [if_pos (by omega), wrap_in _ (by omega) (by omega)]
    have e1 : Int.tmod (n : Int) 2 = ((n % 2 : Nat) : Int) := by rw [Int.tmod_eq_emod_of_nonneg (by omega)]; omega
    have e2 : (Int.tdiv (n : Int) 2) % 4294967296 = ((n / 2 : Nat) : Int) := by rw [Int.tdiv_eq_ediv_of_nonneg (by omega)]; omega
    rw [e1, e2, show (i : Int) + 1 = ((i + 1 : Nat) : Int) by omega, show 8 - i = (8 - (i + 1)) + 1 by omega]
    by_cases h : n % 2 = 1
    · rw [if_pos (by omega)]
      have hx := u32_xor_nat (n / 2) 3988292384 (by omega) (by decide)
      have hxl : n / 2 ^^^ 3988292384 < 4294967296 := Nat.xor_lt_two_pow (n := 32) (by omega) (by decide)
      rw [show bits .xor .u32 ((n / 2 : Nat) : Int) 3988292384 = ((n / 2 ^^^ 3988292384 : Nat) : Int) from hx]
      rw [ih k (i + 1) _ (by omega) (by omega) (by omega) hxl, Crc.stepN, Crc.step, if_pos h]
    · rw [if_neg (by omega), ih k (i + 1) _ (by omega) (by omega) (by omega) (by omega), Crc.stepN, Crc.step, if_neg h]
theorem steps_eq (k n : Nat) (hk : 8 < k) (hn : n < 4294967296) : rotaref01_steps.f k (n : Int) = some ((Crc.stepN 8 n : Nat) : Int) := steps_loop 8 k 0 n rfl (by omega) hk hn
theorem rd_nat {l : List Int} (hw : ∀ x ∈ l, 0 ≤ x ∧ x < 256) {i : Nat} (h : i < l.length) : rd l (i : Int) = ((l[i].toNat : Nat) : Int) ∧ l[i].toNat < 256 := by
  have := hw _ (List.getElem_mem h)
  unfold rd
  rw [Int.toNat_natCast, List.getD_eq_getElem?_getD, List.getElem?_eq_getElem h]
  simp only [Option.getD_some]
  omega
theorem refMore_loop (l : List Int) (hl : l.length ≤ 140737488355328) (hw : ∀ x ∈ l, 0 ≤ x ∧ x < 256) : ∀ (d k i n : Nat), l.length - i = d → i ≤ l.length → d + 9 < k → n < 4294967296 →
    rotaref01_More.l0 k l (n : Int) (i : Int) = some ((4294967295 ^^^ Crc.crc n ((l.drop i).map Int.toNat) : Nat) : Int) := by
  intro d
  induction d with
  | zero =>
    intro k i n hd hi hk hn
    obtain ⟨k, rfl⟩ : ∃ m, k = m + 1 := ⟨k - 1, by omega⟩
    simp only [rotaref01_More.l0]
    rw [if_neg (by omega), List.drop_eq_nil_of_le (by omega)]
    rw [not_sub_int n hn]; rfl
  | succ d ih =>
    intro k i n hd hi hk hn
    obtain ⟨k, rfl⟩ : ∃ m, k = m + 1 := ⟨k - 1, by omega⟩
    have hlt : i < l.length := by omega
    obtain ⟨hr, hb⟩ := rd_nat hw hlt
    simp only [rotaref01_More.l0]
    rw [if_pos (by omega), if_pos (by omega), hr, show ((l[i].toNat : Nat) : Int) % 4294967296 = ((l[i].toNat : Nat) : Int) by omega, u32_xor_nat _ _ hn (by omega)]
    have hx : n ^^^ l[i].toNat < 4294967296 := Nat.xor_lt_two_pow (n := 32) hn (by omega)
    rw [steps_eq k _ (by omega) hx, Option.bind_some, wrap_in _ (by omega) (by omega), show (i : Int) + 1 = ((i + 1 : Nat) : Int) by omega]
    rw [ih k (i + 1) _ (by omega) (by omega) (by omega) (Crc.stepN_lt 8 _ hx), List.drop_eq_getElem_cons hlt]
    rfl
theorem refMore_eq (k s : Nat) (l : List Int) (hs : s < 4294967296) (hl : l.length ≤ 140737488355328) (hw : ∀ x ∈ l, 0 ≤ x ∧ x < 256) (hk : l.length + 9 < k) : rotaref01_More.f k (s : Int) l = some ((more s l : Nat) : Int) := by
  unfold rotaref01_More.f
  rw [not_sub_int s hs]
  exact refMore_loop l hl hw l.length k 0 _ (by omega) (by omega) hk (Nat.xor_lt_two_pow (n := 32) (by decide) hs)
theorem refMore_calls (s : Nat) (w : World) (A : Option Addr) (c : Nat) (l : List Int) (hr : Kd.C (Kd.int .u8) w A l.length l) (hs : s < 4294967296) (hc : l.length ≤ c) (hl : l.length ≤ 140737488355328) (hw : ∀ x ∈ l, 0 ≤ x ∧ x < 256) :
    Calls Tryd.prog 18 #[.int .u32 s, .slice A l.length c] w fun e w' => e = .returned (.int .u32 (more s l)) ∧ Drawn0 w w' :=
  rotaref01_More.calls (l.length + 10) s A c l (more s l : Nat) w hr hc (refMore_eq _ s l hs hl hw (by omega))
theorem refSum_calls (w : World) (A : Option Addr) (c : Nat) (l : List Int) (hr : Kd.C (Kd.int .u8) w A l.length l) (hc : l.length ≤ c) (hl : l.length ≤ 140737488355328) (hw : ∀ x ∈ l, 0 ≤ x ∧ x < 256) :
    Calls Tryd.prog 17 #[.slice A l.length c] w fun e w' => e = .returned (.int .u32 (more 0 l)) ∧ Drawn0 w w' :=
  rotaref01_Sum.calls (l.length + 10) A c l (more 0 l : Nat) w hr hc (by
    unfold rotaref01_Sum.f
    rw [show ((0 : Int)) = ((0 : Nat) : Int) from rfl, refMore_eq _ 0 l (by decide) hl hw (by omega)]; rfl)

set_option maxRecDepth 100000 in
set_option maxHeartbeats 400000 in
theorem refTable_calls (w : World) : Calls Tryd.prog 16 #[] w fun e w' => e = .returned (.agg tabCells) ∧ Below w.heap.size w w' := by
  have hz := zero34
  go_enter Tryd.func16, Tryd.ntmps16
  go_wp2
  go_loopw [2] (fun i wr => ∃ x : Nat, i = .int .i64 (x : Int) ∧ x ≤ 256 ∧ Hid (TabTo wr (w.heap.size + 1) 34 x) ∧ Hid (Below w.heap.size w wr) ∧ Hid (∃ cs : Array Value, wr.heap[w.heap.size]? = some (.cells cs 34 (0, 0)) ∧ cs.size = 256)) (fun i _ => 256 - (intOf i).toNat)
  case atStart => exact ⟨0, rfl, by omega, Lib.hid ⟨_, by have := heap_alloc_new (w.alloc (.cells (Array.replicate 256 (.int .u32 0)) 34)) (.cells (Array.replicate 256 (.int .u32 0)) 34); rw [World.size_alloc] at this; exact this, by simp, fun j hj => by omega, by rw [Array.all_eq_true_iff_forall_mem]; intro x hx; rw [Array.eq_of_mem_replicate hx]; rfl⟩, Lib.hid (((Below.refl _ _).alloc (Nat.le_refl _) _).alloc (by simp) _), Lib.hid ⟨_, (heap_alloc_old (w.alloc (.cells (Array.replicate 256 (.int .u32 0)) 34)) (.cells (Array.replicate 256 (.int .u32 0)) 34) (by simp)).trans (heap_alloc_new w _), by simp⟩⟩
  case round =>
    obtain ⟨x, rfl, hx, HT, HB, HO⟩ := hrel
    by_cases hlt : x < 256
    · have e0 : IntKind.u32.wrap (x : Int) = (x : Int) := by rw [IntKind.wrap_u32]; omega
      obtain ⟨v, hc, hv1⟩ := HT.out.cell hlt
      have hf := HT.out.frozen x
      have hs := Lib.hid (steps_eq 9 x (by omega) (by omega))
      have HO2 := HO.out
      go_wp2_with (go_at_call 24; refine (rotaref01_steps.calls 9 x _ _ hs.out).mono ?_; rintro e w' ⟨rfl, ⟨nd, rfl⟩⟩)
      have HT2 : TabTo ((wr.drewN nd).setCell ⟨w.heap.size + 1, x, none⟩ (.int .u32 (Crc.stepN 8 x : Nat))) (w.heap.size + 1) 34 (x + 1) := TabTo.set (w := wr.drewN nd) HT.out hlt
      have HB2 := Lib.hid ((pw_below_drewN HB.out nd).setCell (p := ⟨w.heap.size + 1, x, none⟩) (Nat.le_succ _) (.int .u32 (Crc.stepN 8 x : Nat)))
      have HT3 := Lib.hid HT2
      have HO3 : ∃ cs : Array Value, ((wr.drewN nd).setCell ⟨w.heap.size + 1, x, none⟩ (.int .u32 (Crc.stepN 8 x : Nat))).heap[w.heap.size]? = some (.cells cs 34 (0, 0)) ∧ cs.size = 256 := by
        obtain ⟨cs, h1, h2⟩ := HO2
        exact ⟨cs, by rw [heap_setCell_other _ _ _ _ (by simp)]; exact h1, h2⟩
      have HO4 := Lib.hid HO3
      go_roundw
      case rel => exact ⟨x + 1, by go_num, by omega, HT3, HB2, HO4⟩
      case measure => simp [intOf]; omega
    · obtain rfl : x = 256 := by omega
      have hfull := HT.out.full
      obtain ⟨cs, hg0, hcs⟩ := HO.out
      have HB := HB.out
      have h1 : tabCells.all (·.oneCell') = true := by rw [Array.all_eq_true_iff_forall_mem]; intro x hx; simp [tabCells] at hx; obtain ⟨j, _, rfl⟩ := hx; rfl
      have hsz : tabCells.size = 256 := by simp [tabCells]
      have hst := run_storeCells_row (P := Tryd.prog) wr w.heap.size 34 cs tabCells hg0 (by rw [hcs, hsz]) h1
      have Hc := Lib.hid hcs
      clear hcs
      go_wp2_with fail
      refine wp_load_row 34 _ rfl (w.heap.size + 1) rfl 34 tabCells (0, 0) _ hfull Tryd.underlying34 rfl (by rw [hsz]; kernel_rfl) ?_
      go_wp2_with fail
      have hfull2 := setRow_heap wr w.heap.size cs tabCells 34 (0, 0) hg0
      have hb2 := below_setRow HB (Nat.le_refl _) tabCells
      exact bodyPost_ret (v := .agg tabCells) (results_cell_row (p := 0) (ty := 34) rfl _ _ w.heap.size 34 tabCells (0, 0) _ rfl hfull2 Tryd.underlying34 rfl (by rw [hsz]; kernel_rfl)) rfl ⟨rfl, hb2⟩
end Go.Proofs.YtenbdejhakdihaaDoor
