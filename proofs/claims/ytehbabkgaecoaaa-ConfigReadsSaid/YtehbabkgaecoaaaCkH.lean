/- What config's Check answers. -/
import Derived.Test.YtehbabkgaecoaaaCkG
namespace Go.Proofs.Ytehbabkgaecoaaa
set_option linter.unusedVariables false
set_option linter.unusedSimpArgs false
open Go.RowKit Go.Shelf Go.Proofs.YtehbabkgaecoaaaW.PrintWords

def fineB (e : Int) (C : S29) : Bool := if e = 21 then nodesB C else if e = 22 then clocksB C else if e = 23 then partsB C else if e = 24 then windowsB C else if e = 25 then portsB C else linksB C
set_option maxHeartbeats 1000000 in
theorem fine_calls (A1 A8 A9 A10 A11 : Option Addr) (c1 c8 c9 c10 c11 : Nat) (C : S29) (w : World) (h : CfgIn w C A1 A8 A9 A10 A11 c1 c8 c9 c10 c11) (e : Int) (h0 : 21 ≤ e) (h1 : e ≤ 26) (hp : e = 23 → nodesB C = true) (hl : e = 26 → portsB C = true) :
    Calls Try.prog 49 #[.int .i64 e, .agg #[.int .i64 C.f0, .slice A1 C.f1.length c1, .int .i64 C.f2, .int .i64 C.f3, .int .i64 C.f4, .int .i64 C.f5, .int .i64 C.f6, .int .i64 C.f7, .slice A8 C.f8.length c8, .slice A9 C.f9.length c9, .slice A10 C.f10.length c10, .slice A11 C.f11.length c11]] w fun x w' => x = .returned (.bool (fineB e C)) ∧ Below w.heap.size w w' := by
  have hb : Below w.heap.size w (w.alloc (Obj.cells #[.int .i64 C.f0, .slice A1 C.f1.length c1, .int .i64 C.f2, .int .i64 C.f3, .int .i64 C.f4, .int .i64 C.f5, .int .i64 C.f6, .int .i64 C.f7, .slice A8 C.f8.length c8, .slice A9 C.f9.length c9, .slice A10 C.f10.length c10, .slice A11 C.f11.length c11] 29)) := (Below.refl _ _).alloc (Nat.le_refl _) _
  have HB := Lib.hid hb
  have HR := Lib.hid (h.below hb)
  clear hb h
  have hn : nodesB C = true → 4 ≤ C.f0 ∧ C.f0 ≤ 16 := fun h => by
    simp only [nodesB, Bool.and_eq_true, withinB, decide_eq_true_eq] at h; exact h.1.1
  have hc : e = 21 ∨ e = 22 ∨ e = 23 ∨ e = 24 ∨ e = 25 ∨ e = 26 := by omega
  rcases hc with rfl | rfl | rfl | rfl | rfl | rfl
  · rw [show fineB 21 C = nodesB C from rfl]
    clear hp hl hn h0 h1
    go_enter Try.func49, Try.ntmps49
    go_wp2_with fail
    refine (nodes_calls _ _ _ _ _ _ _ _ _ _ C _ HR.out).mono ?_
    rintro e w' ⟨rfl, hb1⟩
    go_wp2
    go_ret
    exact ⟨rfl, HB.out.trans (hb1.mono HB.out.size)⟩
  · rw [show fineB 22 C = clocksB C from rfl]
    clear hp hl hn h0 h1
    go_enter Try.func49, Try.ntmps49
    go_wp2_with fail
    refine (clocks_calls _ _ _ _ _ _ _ _ _ _ C _).mono ?_
    rintro e w' ⟨rfl, hb1⟩
    go_wp2
    go_ret
    exact ⟨rfl, HB.out.trans (hb1.mono HB.out.size)⟩
  · rw [show fineB 23 C = partsB C from rfl]
    have HH := Lib.hid (hn (hp rfl))
    clear hp hl hn h0 h1
    go_enter Try.func49, Try.ntmps49
    go_wp2_with fail
    refine (parts_calls _ _ _ _ _ _ _ _ _ _ C _ HR.out HH.out.1 HH.out.2).mono ?_
    rintro e w' ⟨rfl, hb1⟩
    go_wp2
    go_ret
    exact ⟨rfl, HB.out.trans (hb1.mono HB.out.size)⟩
  · rw [show fineB 24 C = windowsB C from rfl]
    clear hp hl hn h0 h1
    go_enter Try.func49, Try.ntmps49
    go_wp2_with fail
    refine (windows_calls _ _ _ _ _ _ _ _ _ _ C _ HR.out).mono ?_
    rintro e w' ⟨rfl, hb1⟩
    go_wp2
    go_ret
    exact ⟨rfl, HB.out.trans (hb1.mono HB.out.size)⟩
  · rw [show fineB 25 C = portsB C from rfl]
    clear hp hl hn h0 h1
    go_enter Try.func49, Try.ntmps49
    go_wp2_with fail
    refine (ports_calls _ _ _ _ _ _ _ _ _ _ C _ HR.out).mono ?_
    rintro e w' ⟨rfl, hb1⟩
    go_wp2
    go_ret
    exact ⟨rfl, HB.out.trans (hb1.mono HB.out.size)⟩
  · rw [show fineB 26 C = linksB C from rfl]
    have HH := Lib.hid (hl rfl)
    clear hp hl hn h0 h1
    go_enter Try.func49, Try.ntmps49
    go_wp2_with fail
    refine (links_calls _ _ _ _ _ _ _ _ _ _ C _ HR.out HH.out).mono ?_
    rintro e w' ⟨rfl, hb1⟩
    go_wp2
    go_ret
    exact ⟨rfl, HB.out.trans (hb1.mono HB.out.size)⟩
/-- The first row that fails; 0: none does. -/
def checkN (C : S29) : Int := if nodesB C = false then 21 else if clocksB C = false then 22 else if partsB C = false then 23 else if windowsB C = false then 24 else if portsB C = false then 25 else if linksB C = false then 26 else 0
/-- All rows ahead of e are fine. -/
def aheadB (e : Int) (C : S29) : Prop := ∀ d, 21 ≤ d → d < e → fineB d C = true
theorem checkN_at {e : Int} {C : S29} (h0 : 21 ≤ e) (h1 : e ≤ 26) (ha : aheadB e C) (hf : fineB e C = false) : checkN C = e := by
  have hc : e = 21 ∨ e = 22 ∨ e = 23 ∨ e = 24 ∨ e = 25 ∨ e = 26 := by omega
  have k1 := ha 21 (by omega)
  have k2 := ha 22 (by omega)
  have k3 := ha 23 (by omega)
  have k4 := ha 24 (by omega)
  have k5 := ha 25 (by omega)
  rcases hc with rfl | rfl | rfl | rfl | rfl | rfl <;> simp [fineB] at * <;> simp_all [checkN]
theorem checkN_ok {C : S29} (ha : aheadB 27 C) : checkN C = 0 := by
  have k1 := ha 21 (by omega) (by omega)
  have k2 := ha 22 (by omega) (by omega)
  have k3 := ha 23 (by omega) (by omega)
  have k4 := ha 24 (by omega) (by omega)
  have k5 := ha 25 (by omega) (by omega)
  have k6 := ha 26 (by omega) (by omega)
  simp [fineB] at k1 k2 k3 k4 k5 k6
  simp [checkN, k1, k2, k3, k4, k5, k6]
set_option maxHeartbeats 2000000 in
theorem check_calls (A1 A8 A9 A10 A11 : Option Addr) (c1 c8 c9 c10 c11 : Nat) (C : S29) (w : World) (h : CfgIn w C A1 A8 A9 A10 A11 c1 c8 c9 c10 c11) : Calls Try.prog 20 #[.agg #[.int .i64 C.f0, .slice A1 C.f1.length c1, .int .i64 C.f2, .int .i64 C.f3, .int .i64 C.f4, .int .i64 C.f5, .int .i64 C.f6, .int .i64 C.f7, .slice A8 C.f8.length c8, .slice A9 C.f9.length c9, .slice A10 C.f10.length c10, .slice A11 C.f11.length c11]] w fun x w' => x = .returned (.int .i64 (checkN C)) ∧ Below w.heap.size w w' := by
  have hb : Below w.heap.size w (w.alloc (Obj.cells #[.int .i64 C.f0, .slice A1 C.f1.length c1, .int .i64 C.f2, .int .i64 C.f3, .int .i64 C.f4, .int .i64 C.f5, .int .i64 C.f6, .int .i64 C.f7, .slice A8 C.f8.length c8, .slice A9 C.f9.length c9, .slice A10 C.f10.length c10, .slice A11 C.f11.length c11] 29)) := (Below.refl _ _).alloc (Nat.le_refl _) _
  have HB := Lib.hid hb
  have HR := Lib.hid h
  have HN := Lib.hid (blk_new w (o := (Obj.cells #[.int .i64 C.f0, .slice A1 C.f1.length c1, .int .i64 C.f2, .int .i64 C.f3, .int .i64 C.f4, .int .i64 C.f5, .int .i64 C.f6, .int .i64 C.f7, .slice A8 C.f8.length c8, .slice A9 C.f9.length c9, .slice A10 C.f10.length c10, .slice A11 C.f11.length c11] 29)))
  clear hb h
  go_enter Try.func20, Try.ntmps20
  go_wp2
  go_loopw [3] (fun i wr => ∃ e : Int, 21 ≤ e ∧ e ≤ 27 ∧ i = .int .i64 e ∧ Hid (aheadB e C) ∧ Hid (Below w.heap.size w wr) ∧ Hid (wr.heap[w.heap.size]? = some (Obj.cells #[.int .i64 C.f0, .slice A1 C.f1.length c1, .int .i64 C.f2, .int .i64 C.f3, .int .i64 C.f4, .int .i64 C.f5, .int .i64 C.f6, .int .i64 C.f7, .slice A8 C.f8.length c8, .slice A9 C.f9.length c9, .slice A10 C.f10.length c10, .slice A11 C.f11.length c11] 29))) (fun i _ => (27 - intOf i).toNat)
  case atStart => exact ⟨21, by omega, by omega, rfl, Lib.hid (fun d h0 h1 => by omega), HB, HN⟩
  case round =>
    clear HB HN
    obtain ⟨e, he0, he1, rfl, HA, HB, HC⟩ := hrel
    obtain ⟨g0, g1, g2, g3, g4, g5, g6, g7, g8, g9, g10, g11⟩ := cfg_cells HC.out
    by_cases hlt : e ≤ 26
    · obtain ⟨b, hb⟩ : ∃ b, b = fineB e C := ⟨_, rfl⟩
      have HBB := Lib.hid hb
      clear hb
      go_wp2_with fail
      refine (fine_calls _ _ _ _ _ _ _ _ _ _ C _ (HR.out.below HB.out) e he0 hlt (fun h => by have := HA.out 21 (by omega) (by omega); simpa [fineB] using this) (fun h => by have := HA.out 25 (by omega) (by omega); simpa [fineB] using this)).mono ?_
      rintro x W1 ⟨rfl, hb1⟩
      rw [← HBB.out]
      have HB1 := Lib.hid (HB.out.trans (hb1.mono HB.out.size))
      have HC1 := Lib.hid ((hb1.block _ (blk_lt HC.out)).trans HC.out)
      clear hb1 g0 g1 g2 g3 g4 g5 g6 g7 g8 g9 g10 g11
      cases b
      · have hres := Lib.hid (checkN_at he0 hlt HA.out HBB.out.symm)
        go_wp2
        go_ret
        exact ⟨ret_int hres.out.symm, HB1.out⟩
      · have HA1 := Lib.hid (show aheadB (e + 1) C from fun d h0 h1 => by
          by_cases hd : d = e
          · rw [hd]; exact HBB.out.symm
          · exact HA.out d h0 (by omega))
        go_wp2
        go_roundw
        case rel => exact ⟨e + 1, by omega, by omega, rfl, HA1, HB1, HC1⟩
        case measure => simp [intOf]; omega
    · have hres := Lib.hid (checkN_ok (by rw [show (27 : Int) = e by omega]; exact HA.out))
      go_wp2
      go_ret
      exact ⟨ret_int hres.out.symm, HB.out⟩
end Go.Proofs.Ytehbabkgaecoaaa
