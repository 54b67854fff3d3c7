/- What the law's spoil leaves. -/
import Derived.Test.YtehbabkgaecoaaaSPA
namespace Go.Proofs.Ytehbabkgaecoaaa
set_option linter.unusedVariables false
set_option linter.unusedSimpArgs false
open Go.RowKit Go.Shelf Go.Proofs.YtehbabkgaecoaaaW.PrintWords Go.Proofs.YtehbabkgaecoaaaW.PrintLast

/-- A configuration whose rows lie between the blocks s and t. -/
structure CfgST (W : World) (s t : Nat) (C : S29) (A1 A8 A9 A10 A11 : Option Addr) (c1 c8 c9 c10 c11 : Nat) : Prop where
  r1 : Kd.R kI 3 W s (fun k => k < t) (.slice A1 C.f1.length c1) C.f1
  r8 : Kd.R k57 57 W s (fun k => k < t) (.slice A8 C.f8.length c8) C.f8
  r9 : Kd.R (Kd.slice 3 kI) 23 W s (fun k => k < t) (.slice A9 C.f9.length c9) C.f9
  r10 : Kd.R k59 59 W s (fun k => k < t) (.slice A10 C.f10.length c10) C.f10
  r11 : Kd.R k61 61 W s (fun k => k < t) (.slice A11 C.f11.length c11) C.f11
/-- Lists that are not too long. -/
structure LenOk (C : S29) : Prop where
  e1 : C.f1.length ≤ 1000000
  e9 : ∀ r ∈ C.f9, r.length ≤ 1000000
  e11 : ∀ x ∈ C.f11, x.f1.length ≤ 1000000
/-- A cell of a row that may be written over. -/
theorem SlotR.cell {V : World} {s t e sz : Nat} {A : Option Addr} {n c : Nat} (h : SlotR V s t e sz (.slice A n c) n) (k j : Nat) (hk : k < n) (hj : j < sz) : ∃ g cur u, A = some ⟨g, 0, none⟩ ∧ s ≤ g ∧ g < t ∧ V.heap[g]? = some (.cells cur e (0, 0)) ∧ V.cell? ⟨g, k * sz + j, none⟩ = some u ∧ V.frozen? ⟨g, k * sz + j, none⟩ = false := by
  rcases h with ⟨_, h0⟩ | ⟨g, cap, cur, hv, hs, hg, hb, h1, h2, h3⟩
  · omega
  · injection hv with ha _ _
    have hlt : k * sz + j < cur.size := by
      rw [h3]
      calc k * sz + j < k * sz + sz := by omega
        _ = (k + 1) * sz := by rw [Nat.succ_mul]
        _ ≤ cap * sz := Nat.mul_le_mul_right _ (by omega)
    exact ⟨g, cur, cur[k * sz + j], ha, hs, hg, hb, (blk_cell hb _).trans (Array.getElem?_eq_getElem hlt), blk_frozen hb _⟩
/-- The header of a window's row. -/
theorem win_head {W V : World} {s t : Nat} {A : Option Addr} {c : Nat} {l : List (List Int)} (h : Kd.R (Kd.slice 3 kI) 23 W s (fun k => k < t) (.slice A l.length c) l) (hI : SpI W s t V) (k : Nat) (hk : k < l.length) :
    ∃ g r Ar cr, A = some ⟨g, 0, none⟩ ∧ l[k]? = some r ∧ V.cell? ⟨g, k, none⟩ = some (.slice Ar r.length cr) ∧ SlotR V s t 3 1 (.slice Ar r.length cr) r.length := by
  obtain ⟨g, cap, cur, hv, hs, hg, hb, h1, h2, h3⟩ : ∃ g cap cur, (Value.slice A l.length c) = .slice (some ⟨g, 0, none⟩) l.length cap ∧ s ≤ g ∧ g < t ∧ W.heap[g]? = some (.cells cur 23 (0, 0)) ∧ l.length ≤ cap ∧ cap ≤ maxLen ∧ cur.size = cap * 1 := by
    rcases R_slotR h (fun _ h => h) with ⟨_, h0⟩ | h
    · omega
    · exact h
  injection hv with ha _ hc
  subst ha hc
  obtain ⟨cs, hcl, ⟨v, hcs, hR⟩, hcc, _⟩ := Kd.R_elem h ([] : List Int) k (by omega) (by omega)
  subst hcs
  obtain ⟨Ar, cr, rfl⟩ := Kd.R_slice hR
  have hc0 := hcc 0 _ rfl
  have e1 : ((k : Int).toNat * (Kd.slice 3 kI).sz + 0) = k := by show (k : Int).toNat * 1 + 0 = k; omega
  rw [e1] at hc0
  rw [Int.toNat_natCast] at hc0 hR
  have hgd : l.getD k [] = l[k] := by rw [List.getD_eq_getElem?_getD, List.getElem?_eq_getElem hk]; rfl
  rw [hgd] at hc0 hR
  refine ⟨g, l[k], Ar, cr, rfl, List.getElem?_eq_getElem hk, ?_, hI.slot (R_slotR hR (fun _ h => h.1))⟩
  exact (World.cell?_of_block (((hI.keep g cur _ hs hg hb).1 (by decide)).trans hb.symm)).trans hc0
/-- The header of a link's row. -/
theorem link_head {W V : World} {s t : Nat} {A : Option Addr} {c : Nat} {l : List S61} (h : Kd.R k61 61 W s (fun k => k < t) (.slice A l.length c) l) (hI : SpI W s t V) (k : Nat) (hk : k < l.length) :
    ∃ g x Ar cr, A = some ⟨g, 0, none⟩ ∧ l[k]? = some x ∧ V.cell? ⟨g, k * 3 + 1, none⟩ = some (.slice Ar x.f1.length cr) ∧ SlotR V s t 3 1 (.slice Ar x.f1.length cr) x.f1.length := by
  obtain ⟨g, cap, cur, hv, hs, hg, hb, h1, h2, h3⟩ : ∃ g cap cur, (Value.slice A l.length c) = .slice (some ⟨g, 0, none⟩) l.length cap ∧ s ≤ g ∧ g < t ∧ W.heap[g]? = some (.cells cur 61 (0, 0)) ∧ l.length ≤ cap ∧ cap ≤ maxLen ∧ cur.size = cap * 3 := by
    rcases R_slotR h (fun _ h => h) with ⟨_, h0⟩ | h
    · omega
    · exact h
  injection hv with ha _ hc
  subst ha hc
  obtain ⟨cs, hcl, hM, hcc, _⟩ := Kd.R_elem h (⟨0, [], 0⟩ : S61) k (by omega) (by omega)
  obtain ⟨v, hcs, hR⟩ := k61_openM hM
  subst hcs
  obtain ⟨Ar, cr, rfl⟩ := Kd.R_slice hR
  have hc0 := hcc 1 _ rfl
  have e1 : ((k : Int).toNat * (k61).sz + 1) = k * 3 + 1 := by show (k : Int).toNat * 3 + 1 = k * 3 + 1; omega
  rw [e1] at hc0
  rw [Int.toNat_natCast] at hc0 hR
  have hgd : l.getD k ⟨0, [], 0⟩ = l[k] := by rw [List.getD_eq_getElem?_getD, List.getElem?_eq_getElem hk]; rfl
  rw [hgd] at hc0 hR
  refine ⟨g, l[k], Ar, cr, rfl, List.getElem?_eq_getElem hk, ?_, hI.slot (R_slotR hR (fun _ h => h.1))⟩
  exact (World.cell?_of_block (((hI.keep g cur _ hs hg hb).1 (by decide)).trans hb.symm)).trans hc0
set_option maxRecDepth 100000 in
set_option maxHeartbeats 32000000 in
theorem spoil_calls (A1 A8 A9 A10 A11 : Option Addr) (c1 c8 c9 c10 c11 : Nat) (C : S29) (W : World) (s t : Nat) (hst : s ≤ t) (ht : t ≤ W.heap.size) (h : CfgST W s t C A1 A8 A9 A10 A11 c1 c8 c9 c10 c11) (hz : LenOk C) :
    Calls Try.prog 15 #[.agg #[.int .i64 C.f0, .slice A1 C.f1.length c1, .int .i64 C.f2, .int .i64 C.f3, .int .i64 C.f4, .int .i64 C.f5, .int .i64 C.f6, .int .i64 C.f7, .slice A8 C.f8.length c8, .slice A9 C.f9.length c9, .slice A10 C.f10.length c10, .slice A11 C.f11.length c11]] W fun e V => e = .returned (.tuple #[]) ∧ SpI W s t V := by
  have HH := Lib.hid h
  have HT := Lib.hid ht
  have HST := Lib.hid hst
  have HSZ := Lib.hid hz
  have l1 : C.f1.length ≤ 9223372036854775807 := (Kd.R_reads' h.r1).2.2.2.1
  have l8 : C.f8.length ≤ 9223372036854775807 := (Kd.R_reads' h.r8).2.2.2.1
  have l9 : C.f9.length ≤ 9223372036854775807 := (Kd.R_reads' h.r9).2.2.2.1
  have l10 : C.f10.length ≤ 9223372036854775807 := (Kd.R_reads' h.r10).2.2.2.1
  have l11 : C.f11.length ≤ 9223372036854775807 := (Kd.R_reads' h.r11).2.2.2.1
  have HB0 := Lib.hid ((Below.refl W.heap.size W).alloc (Nat.le_refl _) (Obj.cells #[.int .i64 C.f0, .slice A1 C.f1.length c1, .int .i64 C.f2, .int .i64 C.f3, .int .i64 C.f4, .int .i64 C.f5, .int .i64 C.f6, .int .i64 C.f7, .slice A8 C.f8.length c8, .slice A9 C.f9.length c9, .slice A10 C.f10.length c10, .slice A11 C.f11.length c11] 29))
  have HI0 := Lib.hid ((SpI.refl W s t).below ht hst HB0.out)
  have HC0 := Lib.hid (blk_new W (Obj.cells #[.int .i64 C.f0, .slice A1 C.f1.length c1, .int .i64 C.f2, .int .i64 C.f3, .int .i64 C.f4, .int .i64 C.f5, .int .i64 C.f6, .int .i64 C.f7, .slice A8 C.f8.length c8, .slice A9 C.f9.length c9, .slice A10 C.f10.length c10, .slice A11 C.f11.length c11] 29))
  clear h ht hst hz HB0
  go_enter Try.func15, Try.ntmps15
  go_wp2_with fail
  go_loopw [15] (fun i wr => ∃ k : Nat, k ≤ C.f1.length ∧ i = .int .i64 k ∧ Hid (SpI W s t wr) ∧ Hid (wr.heap[W.heap.size]? = some (Obj.cells #[.int .i64 C.f0, .slice A1 C.f1.length c1, .int .i64 C.f2, .int .i64 C.f3, .int .i64 C.f4, .int .i64 C.f5, .int .i64 C.f6, .int .i64 C.f7, .slice A8 C.f8.length c8, .slice A9 C.f9.length c9, .slice A10 C.f10.length c10, .slice A11 C.f11.length c11] 29 (0, 0)))) (fun i _ => C.f1.length - (intOf i).toNat)
  case atStart => exact ⟨0, by omega, rfl, HI0, HC0⟩
  case round =>
    obtain ⟨k, hk, rfl, HI, HC⟩ := hrel
    by_cases hlt : k < C.f1.length
    · have n0 : wr.cell? ⟨W.heap.size, 1, none⟩ = some (.slice A1 C.f1.length c1) := blk_cell HC.out 1
      obtain ⟨g, cur, u, ea, hs, hg, hb, hc, hf⟩ := (show SlotR wr s t _ 1 (.slice A1 C.f1.length c1) C.f1.length from HI.out.slot (R_slotR HH.out.r1 (fun _ h => h))).cell k 0 hlt (by decide)
      rw [ea] at n0
      rw [show k * 1 + 0 = k by omega] at hc hf
      have HN := Lib.hid (HI.out.set HT.out hs hg hb (by decide) (k) (.int .i64 77))
      have HCN := Lib.hid (blk_far HC.out (p := ⟨g, k, none⟩) (by have := HT.out; show W.heap.size ≠ g; omega) (.int .i64 77))
      clear hs hg hb HI HC
      go_wp2_with fail
      go_roundw
      case rel => exact ⟨k + 1, by omega, by go_num, HN, HCN⟩
      case measure => simp [intOf]; omega
    · clear HI0 HC0
      have HI0 := HI
      have HC0 := HC
      clear HI HC
      have nx : wr.cell? ⟨W.heap.size, 8, none⟩ = some (.slice A8 C.f8.length c8) := blk_cell HC0.out 8
      go_wp2_with fail
      clear hlt hk nx
      go_loopw [26] (fun i wr => ∃ k : Nat, k ≤ C.f8.length ∧ i = .int .i64 k ∧ Hid (SpI W s t wr) ∧ Hid (wr.heap[W.heap.size]? = some (Obj.cells #[.int .i64 C.f0, .slice A1 C.f1.length c1, .int .i64 C.f2, .int .i64 C.f3, .int .i64 C.f4, .int .i64 C.f5, .int .i64 C.f6, .int .i64 C.f7, .slice A8 C.f8.length c8, .slice A9 C.f9.length c9, .slice A10 C.f10.length c10, .slice A11 C.f11.length c11] 29 (0, 0)))) (fun i _ => C.f8.length - (intOf i).toNat)
      case atStart => exact ⟨0, by omega, rfl, HI0, HC0⟩
      case round =>
        obtain ⟨k, hk, rfl, HI, HC⟩ := hrel
        by_cases hlt : k < C.f8.length
        · have n0 : wr.cell? ⟨W.heap.size, 8, none⟩ = some (.slice A8 C.f8.length c8) := blk_cell HC.out 8
          obtain ⟨g, cur, u, ea, hs, hg, hb, hc, hf⟩ := (show SlotR wr s t _ 3 (.slice A8 C.f8.length c8) C.f8.length from HI.out.slot (R_slotR HH.out.r8 (fun _ h => h))).cell k 0 hlt (by decide)
          rw [ea] at n0
          rw [show k * 3 + 0 = k * 3 by omega] at hc hf
          have HN := Lib.hid (HI.out.set HT.out hs hg hb (by decide) (k * 3) (.int .i64 77))
          have HCN := Lib.hid (blk_far HC.out (p := ⟨g, k * 3, none⟩) (by have := HT.out; show W.heap.size ≠ g; omega) (.int .i64 77))
          clear hs hg hb HI HC
          go_wp2_with fail
          go_roundw
          case rel => exact ⟨k + 1, by omega, by go_num, HN, HCN⟩
          case measure => simp [intOf]; omega
        · clear HI0 HC0
          have HI0 := HI
          have HC0 := HC
          clear HI HC
          have nx : wr.cell? ⟨W.heap.size, 9, none⟩ = some (.slice A9 C.f9.length c9) := blk_cell HC0.out 9
          go_wp2_with fail
          clear hlt hk nx
          go_loopw [38] (fun i wr => ∃ k : Nat, k ≤ C.f9.length ∧ i = .int .i64 k ∧ Hid (SpI W s t wr) ∧ Hid (wr.heap[W.heap.size]? = some (Obj.cells #[.int .i64 C.f0, .slice A1 C.f1.length c1, .int .i64 C.f2, .int .i64 C.f3, .int .i64 C.f4, .int .i64 C.f5, .int .i64 C.f6, .int .i64 C.f7, .slice A8 C.f8.length c8, .slice A9 C.f9.length c9, .slice A10 C.f10.length c10, .slice A11 C.f11.length c11] 29 (0, 0)))) (fun i _ => C.f9.length - (intOf i).toNat)
          case atStart => exact ⟨0, by omega, rfl, HI0, HC0⟩
          case round =>
            obtain ⟨k, hk, rfl, HI, HC⟩ := hrel
            by_cases hlt : k < C.f9.length
            · obtain ⟨WO, hWO⟩ : ∃ W : World, W = wr := ⟨_, rfl⟩
              subst hWO
              have n0 : WO.cell? ⟨W.heap.size, 9, none⟩ = some (.slice A9 C.f9.length c9) := blk_cell HC.out 9
              obtain ⟨g, r, Ar, cr, ea, hr, hc, hsl⟩ := win_head HH.out.r9 HI.out k hlt
              have hrl : r.length ≤ 1000000 := HSZ.out.e9 r (List.mem_of_getElem? hr)
              have HR := Lib.hid hr
              rw [ea] at n0
              clear ea
              go_wp2_with fail
              clear n0 hc hsl hr
              go_loopw [47] (fun i wr => ∃ j : Nat, j ≤ r.length ∧ i = .int .i64 j ∧ Hid (SpI W s t wr) ∧ Hid (wr.heap[W.heap.size]? = some (Obj.cells #[.int .i64 C.f0, .slice A1 C.f1.length c1, .int .i64 C.f2, .int .i64 C.f3, .int .i64 C.f4, .int .i64 C.f5, .int .i64 C.f6, .int .i64 C.f7, .slice A8 C.f8.length c8, .slice A9 C.f9.length c9, .slice A10 C.f10.length c10, .slice A11 C.f11.length c11] 29 (0, 0)))) (fun i _ => r.length - (intOf i).toNat)
              case atStart => exact ⟨0, by omega, rfl, HI, HC⟩
              case round =>
                clear HI HC
                obtain ⟨j, hj, rfl, HI, HC⟩ := hrel
                have n0 : wr.cell? ⟨W.heap.size, 9, none⟩ = some (.slice A9 C.f9.length c9) := blk_cell HC.out 9
                obtain ⟨g2, r2, Ar2, cr2, ea2, hr2, hc2, hsl2⟩ := win_head HH.out.r9 HI.out k hlt
                rw [HR.out] at hr2
                injection hr2 with hr2
                subst hr2
                rw [ea2] at n0
                clear ea2
                by_cases hlj : j < r.length
                · obtain ⟨g3, cur, u, ea3, hs, hg, hb, hc3, hf3⟩ := (show SlotR wr s t _ 1 _ _ from hsl2).cell j 0 hlj (by decide)
                  rw [ea3] at hc2
                  clear ea3
                  rw [show j * 1 + 0 = j by omega] at hc3 hf3
                  have HN := Lib.hid (HI.out.set HT.out hs hg hb (by decide) j (.int .i64 77))
                  have HCN := Lib.hid (blk_far HC.out (p := ⟨g3, j, none⟩) (by have := HT.out; show W.heap.size ≠ g3; omega) (.int .i64 77))
                  clear hs hg hb HI HC hsl2
                  go_wp2_with fail
                  go_roundw
                  case rel => exact ⟨j + 1, by omega, by go_num, HN, HCN⟩
                  case measure => simp [intOf]; omega
                · have HSL := Lib.hid hsl2
                  clear hsl2
                  go_wp2_with (first | ((with_reducible refine gate_z (b := .append) (xs := #[.tmp 62, .tmp 63]) rfl ?_); at_builtin; refine app_sp HI.out HT.out HST.out HSL.out rfl _ _ 23 78 rfl Try.underlying23 info3 rfl rfl (by omega) ?_; intro g3 cap3 cur3 U hg3 hn3 hs3 hI3 hp3 hb3; obtain ⟨u3, hu3⟩ : ∃ u, cur3[r.length]? = some u := (⟨_, Array.getElem?_eq_getElem (by omega)⟩); have HN := Lib.hid (hp3 r.length (.int .i64 79)); have hbx := hb3 W.heap.size (Nat.le_refl _) (blk_lt HC.out); have HCN := Lib.hid (blk_far (hbx.1.trans HC.out) (p := ⟨g3, r.length, none⟩) hbx.2 (.int .i64 79)); have q3 : U.cell? ⟨g3, r.length, none⟩ = some u3 := ((blk_cell hg3 _).trans hu3); have f3 := blk_frozen hg3 r.length; clear hg3 hs3 hI3 hp3 hb3 hu3 hbx))
                  go_roundw
                  case rel => exact ⟨k + 1, by omega, by go_num, HN, HCN⟩
                  case measure => simp [intOf]; omega
            · clear HI0 HC0
              have HI0 := HI
              have HC0 := HC
              clear HI HC
              have nx : wr.cell? ⟨W.heap.size, 10, none⟩ = some (.slice A10 C.f10.length c10) := blk_cell HC0.out 10
              go_wp2_with fail
              clear hlt hk nx
              go_loopw [74] (fun i wr => ∃ k : Nat, k ≤ C.f10.length ∧ i = .int .i64 k ∧ Hid (SpI W s t wr) ∧ Hid (wr.heap[W.heap.size]? = some (Obj.cells #[.int .i64 C.f0, .slice A1 C.f1.length c1, .int .i64 C.f2, .int .i64 C.f3, .int .i64 C.f4, .int .i64 C.f5, .int .i64 C.f6, .int .i64 C.f7, .slice A8 C.f8.length c8, .slice A9 C.f9.length c9, .slice A10 C.f10.length c10, .slice A11 C.f11.length c11] 29 (0, 0)))) (fun i _ => C.f10.length - (intOf i).toNat)
              case atStart => exact ⟨0, by omega, rfl, HI0, HC0⟩
              case round =>
                obtain ⟨k, hk, rfl, HI, HC⟩ := hrel
                by_cases hlt : k < C.f10.length
                · have n0 : wr.cell? ⟨W.heap.size, 10, none⟩ = some (.slice A10 C.f10.length c10) := blk_cell HC.out 10
                  obtain ⟨g, cur, u, ea, hs, hg, hb, hc, hf⟩ := (show SlotR wr s t _ 6 (.slice A10 C.f10.length c10) C.f10.length from HI.out.slot (R_slotR HH.out.r10 (fun _ h => h))).cell k 3 hlt (by decide)
                  rw [ea] at n0
                  rw [show k * 6 + 3 = k * 6 + 3 by omega] at hc hf
                  have HN := Lib.hid (HI.out.set HT.out hs hg hb (by decide) (k * 6 + 3) (.int .i64 77))
                  have HCN := Lib.hid (blk_far HC.out (p := ⟨g, k * 6 + 3, none⟩) (by have := HT.out; show W.heap.size ≠ g; omega) (.int .i64 77))
                  clear hs hg hb HI HC
                  go_wp2_with fail
                  go_roundw
                  case rel => exact ⟨k + 1, by omega, by go_num, HN, HCN⟩
                  case measure => simp [intOf]; omega
                · clear HI0 HC0
                  have HI0 := HI
                  have HC0 := HC
                  clear HI HC
                  have nx : wr.cell? ⟨W.heap.size, 11, none⟩ = some (.slice A11 C.f11.length c11) := blk_cell HC0.out 11
                  go_wp2_with fail
                  clear hlt hk nx
                  go_loopw [86] (fun i wr => ∃ k : Nat, k ≤ C.f11.length ∧ i = .int .i64 k ∧ Hid (SpI W s t wr) ∧ Hid (wr.heap[W.heap.size]? = some (Obj.cells #[.int .i64 C.f0, .slice A1 C.f1.length c1, .int .i64 C.f2, .int .i64 C.f3, .int .i64 C.f4, .int .i64 C.f5, .int .i64 C.f6, .int .i64 C.f7, .slice A8 C.f8.length c8, .slice A9 C.f9.length c9, .slice A10 C.f10.length c10, .slice A11 C.f11.length c11] 29 (0, 0)))) (fun i _ => C.f11.length - (intOf i).toNat)
                  case atStart => exact ⟨0, by omega, rfl, HI0, HC0⟩
                  case round =>
                    obtain ⟨k, hk, rfl, HI, HC⟩ := hrel
                    by_cases hlt : k < C.f11.length
                    · obtain ⟨WO, hWO⟩ : ∃ W : World, W = wr := ⟨_, rfl⟩
                      subst hWO
                      have n0 : WO.cell? ⟨W.heap.size, 11, none⟩ = some (.slice A11 C.f11.length c11) := blk_cell HC.out 11
                      obtain ⟨g, r, Ar, cr, ea, hr, hc, hsl⟩ := link_head HH.out.r11 HI.out k hlt
                      have hrl : r.f1.length ≤ 1000000 := HSZ.out.e11 r (List.mem_of_getElem? hr)
                      have HR := Lib.hid hr
                      rw [ea] at n0
                      clear ea
                      go_wp2_with fail
                      clear n0 hc hsl hr
                      go_loopw [96] (fun i wr => ∃ j : Nat, j ≤ r.f1.length ∧ i = .int .i64 j ∧ Hid (SpI W s t wr) ∧ Hid (wr.heap[W.heap.size]? = some (Obj.cells #[.int .i64 C.f0, .slice A1 C.f1.length c1, .int .i64 C.f2, .int .i64 C.f3, .int .i64 C.f4, .int .i64 C.f5, .int .i64 C.f6, .int .i64 C.f7, .slice A8 C.f8.length c8, .slice A9 C.f9.length c9, .slice A10 C.f10.length c10, .slice A11 C.f11.length c11] 29 (0, 0)))) (fun i _ => r.f1.length - (intOf i).toNat)
                      case atStart => exact ⟨0, by omega, rfl, HI, HC⟩
                      case round =>
                        clear HI HC
                        obtain ⟨j, hj, rfl, HI, HC⟩ := hrel
                        have n0 : wr.cell? ⟨W.heap.size, 11, none⟩ = some (.slice A11 C.f11.length c11) := blk_cell HC.out 11
                        obtain ⟨g2, r2, Ar2, cr2, ea2, hr2, hc2, hsl2⟩ := link_head HH.out.r11 HI.out k hlt
                        rw [HR.out] at hr2
                        injection hr2 with hr2
                        subst hr2
                        rw [ea2] at n0
                        clear ea2
                        by_cases hlj : j < r.f1.length
                        · obtain ⟨g3, cur, u, ea3, hs, hg, hb, hc3, hf3⟩ := (show SlotR wr s t _ 1 _ _ from hsl2).cell j 0 hlj (by decide)
                          rw [ea3] at hc2
                          clear ea3
                          rw [show j * 1 + 0 = j by omega] at hc3 hf3
                          have HN := Lib.hid (HI.out.set HT.out hs hg hb (by decide) j (.int .i64 77))
                          have HCN := Lib.hid (blk_far HC.out (p := ⟨g3, j, none⟩) (by have := HT.out; show W.heap.size ≠ g3; omega) (.int .i64 77))
                          clear hs hg hb HI HC hsl2
                          go_wp2_with fail
                          go_roundw
                          case rel => exact ⟨j + 1, by omega, by go_num, HN, HCN⟩
                          case measure => simp [intOf]; omega
                        · have HSL := Lib.hid hsl2
                          clear hsl2
                          go_wp2_with (first | ((with_reducible refine gate_z (b := .append) (xs := #[.tmp 113, .tmp 114]) rfl ?_); at_builtin; refine app_sp HI.out HT.out HST.out HSL.out rfl _ _ 23 78 rfl Try.underlying23 info3 rfl rfl (by omega) ?_; intro g3 cap3 cur3 U hg3 hn3 hs3 hI3 hp3 hb3; obtain ⟨u3, hu3⟩ : ∃ u, cur3[r.f1.length]? = some u := (⟨_, Array.getElem?_eq_getElem (by omega)⟩); have HN := Lib.hid (hp3 r.f1.length (.int .i64 79)); have hbx := hb3 W.heap.size (Nat.le_refl _) (blk_lt HC.out); have HCN := Lib.hid (blk_far (hbx.1.trans HC.out) (p := ⟨g3, r.f1.length, none⟩) hbx.2 (.int .i64 79)); have q3 : U.cell? ⟨g3, r.f1.length, none⟩ = some u3 := ((blk_cell hg3 _).trans hu3); have f3 := blk_frozen hg3 r.f1.length; clear hg3 hs3 hI3 hp3 hb3 hu3 hbx))
                          go_roundw
                          case rel => exact ⟨k + 1, by omega, by go_num, HN, HCN⟩
                          case measure => simp [intOf]; omega
                    · clear HI0 HC0
                      have HI0 := HI
                      have HC0 := HC
                      clear HI HC
                      have nx : wr.cell? ⟨W.heap.size, 1, none⟩ = some (.slice A1 C.f1.length c1) := blk_cell HC0.out 1
                      have hrl := HSZ.out.e1
                      go_wp2_with (first | ((with_reducible refine gate_z (b := .append) (xs := #[.tmp 123, .tmp 124]) rfl ?_); at_builtin; refine app_sp HI0.out HT.out HST.out (show SlotR wr s t 3 1 (.slice A1 C.f1.length c1) C.f1.length from HI0.out.slot (R_slotR HH.out.r1 (fun _ h => h))) rfl _ _ 23 78 rfl Try.underlying23 info3 rfl rfl (by omega) ?_; intro g3 cap3 cur3 U hg3 hn3 hs3 hI3 hp3 hb3; obtain ⟨u3, hu3⟩ : ∃ u, cur3[C.f1.length]? = some u := (⟨_, Array.getElem?_eq_getElem (by omega)⟩); have HN := Lib.hid (hp3 C.f1.length (.int .i64 79)); have q3 : U.cell? ⟨g3, C.f1.length, none⟩ = some u3 := ((blk_cell hg3 _).trans hu3); have f3 := blk_frozen hg3 C.f1.length; clear hg3 hs3 hI3 hp3 hb3 hu3))
                      go_end0
                      exact ⟨rfl, HN.out⟩
end Go.Proofs.Ytehbabkgaecoaaa
