/- The library's DeleteFunc at spans. -/
import Derived.Test.YtnbcnkpcmjkglaaB
namespace Go.Proofs.Ytnbcnkpcmjkglaa
open Go.RowKit Go.Proofs.Ytnbcnkpcmjkglaa.Px Go.Proofs.YtnbcnkpcmjkglaaW.PrintWords Go.Proofs.YtnbcnkpcmjkglaaW.PrintLast

theorem take_succ_filter {p : S30 → Bool} {l : List S30} {j : Nat} {s : S30} (h : l[j]? = some s) : (l.take (j + 1)).filter p = (l.take j).filter p ++ (if p s then [s] else []) := by
  rw [List.take_add_one, h, List.filter_append]
  congr 1
  simp only [Option.toList_some, List.filter_cons, List.filter_nil]
theorem Row.cut {g : Nat} {xs : List S30} {W : World} (h : Row g xs W) (i : Nat) (vs : List Value) : Row g (xs.take i) (W.setCells g (i * 2) vs) := by
  refine ⟨by rw [(setCells_same _ _ _ _).2.2.2]; exact h.lt, fun k s hs => ?_, fun j => by rw [World.frozen?_setCells]; exact h.f j⟩
  have hk : k < i := by
    have := (List.getElem?_eq_some_iff.1 hs).1
    rw [List.length_take] at this
    omega
  obtain ⟨c0, c1⟩ := (h.take i).c k s hs
  exact ⟨(World.cell?_setCells_out g vs _ _ _ (fun _ _ => .inl (by show k * 2 < i * 2; omega))).trans c0, (World.cell?_setCells_out g vs _ _ _ (fun _ _ => .inl (by show k * 2 + 1 < i * 2; omega))).trans c1⟩
set_option maxHeartbeats 4000000 in
set_option maxRecDepth 100000 in
theorem delf_calls (l : List S30) (g c B : Nat) (limit : Int) (W : World) (h : Row g l W) (hlc : l.length ≤ c) (hcc : c ≤ 9223372036854775807) (hB : B ≠ g) (hl : W.cell? ⟨B, 0, none⟩ = some (.int .i64 limit)) :
    Calls Try.prog 31 #[.slice (some ⟨g, 0, none⟩) l.length c, .func (.func 32) #[] #[.pointer (some ⟨B, 0, none⟩)]] W fun e W' => e = .returned (.slice (some ⟨g, 0, none⟩) (l.filter (keepB limit)).length c) ∧ Row g (l.filter (keepB limit)) W' ∧ Kp g W W' ∧ ∀ s, s ≤ g → Below s W W' := by
  have HR := Lib.hid h
  have HL := Lib.hid hl
  have HC := Lib.hid hlc
  clear h hl
  go_enter Try.func31, Try.ntmps31
  go_wp2_with fail
  refine (idx_calls l (some ⟨g, 0, none⟩) c B limit W (HR.out.C (by omega)) HL.out).mono ?_
  rintro e W1 ⟨⟨r, rfl, hr⟩, hb⟩
  have HB1 := Lib.hid hb
  clear hb
  rcases hr with ⟨rfl, hall⟩ | ⟨k, hk, rfl, hnk, hpre⟩
  · have hf : l.filter (keepB limit) = l := List.filter_eq_self.2 hall
    have HF := Lib.hid hf
    clear hall hf
    go_wp2
    go_ret
    rw [HF.out]
    exact ⟨rfl, HR.out.mv (HB1.out.block g HR.out.lt), Kp.below HB1.out, fun s hs => HB1.out.mono (by have := HR.out.lt; omega)⟩
  · obtain ⟨s0, hs0, hn0⟩ := hnk
    have hneg : ((k : Int) == -1) = false := by rw [beq_eq_false_iff_ne]; omega
    have hpk : (l.take k).filter (keepB limit) = l.take k := List.filter_eq_self.2 (fun s hs => by
      obtain ⟨j, hj, rfl⟩ := List.getElem_of_mem hs
      rw [List.length_take] at hj
      exact hpre j _ (by omega) (by rw [List.getElem_take]; exact List.getElem?_eq_getElem (by omega)))
    have H0 := Lib.hid (show l.take k = (l.take (k + 1)).filter (keepB limit) by rw [take_succ_filter hs0, hpk, hn0]; simp)
    clear hpre hpk hs0 hn0
    go_wp2_with fail
    go_loopw [5, 6] (fun vi vj wr => ∃ (i j : Nat) (xs : List S30), i < j ∧ j ≤ l.length ∧ vi = .int .i64 i ∧ vj = .int .i64 j ∧ xs.length = l.length ∧ Hid (Row g xs wr) ∧ Hid (xs.take i = (l.take j).filter (keepB limit)) ∧ Hid (∀ q : Nat, j ≤ q → xs[q]? = l[q]?) ∧ Hid (Kp g W wr) ∧ Hid (∀ s, s ≤ g → Below s W wr)) (fun _ vj _ => l.length - (intOf vj).toNat)
    case atStart => exact ⟨k, k + 1, l, by omega, by omega, rfl, by go_num, rfl, Lib.hid (HR.out.mv (HB1.out.block g HR.out.lt)), H0, Lib.hid (fun _ _ => rfl), Lib.hid (Kp.below HB1.out), Lib.hid (fun s hs => HB1.out.mono (by have := HR.out.lt; omega))⟩
    case round =>
      clear HB1 H0 hneg
      obtain ⟨i, j, xs, hij, hj, rfl, rfl, hxl, HX, HF, HS, HK, HBE⟩ := hrel
      by_cases hlt : j < l.length
      · obtain ⟨s, hs⟩ : ∃ s, l[j]? = some s := ⟨l[j], List.getElem?_eq_getElem hlt⟩
        obtain ⟨c0, c1⟩ := HX.out.c j s ((HS.out j (Nat.le_refl _)).trans hs)
        have HSJ := Lib.hid hs
        clear hs
        go_wp2_with fail
        have hba : Below wr.heap.size wr (wr.alloc (Obj.cells #[.int .i64 s.f0, .int .i64 s.f1] 30)) := (Below.refl _ _).alloc (Nat.le_refl _) _
        have hla : (wr.alloc (Obj.cells #[.int .i64 s.f0, .int .i64 s.f1] 30)).cell? ⟨B, 0, none⟩ = some (.int .i64 limit) := by
          have h1 := HK.out.cell (p := ⟨B, 0, none⟩) hB HL.out
          exact (hba.cell (World.block_lt_of_cell? _ _ h1)).trans h1
        refine (del_calls s B limit _ hla).mono ?_
        rintro e u ⟨rfl, hb⟩
        have hbu : Below wr.heap.size wr u := hba.trans (hb.mono hba.size)
        have HBU := Lib.hid hbu
        have HXU := Lib.hid (HX.out.mv (hbu.block g HX.out.lt))
        have HVB := Lib.hid ((hb.block wr.heap.size (by rw [World.size_alloc]; omega)).trans (blk_at wr (Obj.cells #[.int .i64 s.f0, .int .i64 s.f1] 30)))
        obtain ⟨b, hkb⟩ : ∃ b, b = keepB limit s := ⟨_, rfl⟩
        rw [← hkb]
        have HKB := Lib.hid hkb
        have HKU := Lib.hid (HK.out.trans (Kp.below hbu))
        have HBEU := Lib.hid (show ∀ s, s ≤ g → Below s W u from fun s hs => (HBE.out s hs).trans (hbu.mono (by have := HX.out.lt; omega)))
        clear hba hla hb hbu hkb c0 c1 HX HK HBE
        cases b
        · go_wp2_with fail
          go_roundw
          case rel => exact ⟨i, j + 1, xs, by omega, by omega, rfl, by go_num, hxl, HXU, Lib.hid (by rw [HF.out, take_succ_filter HSJ.out, ← HKB.out]; simp), Lib.hid (fun q hq => HS.out q (by omega)), HKU, HBEU⟩
          case measure => simp [intOf]; omega
        · obtain ⟨d0, d1⟩ := HXU.out.c i xs[i] (List.getElem?_eq_getElem (by omega))
          have f0 := HXU.out.f (i * 2)
          have f1 := HXU.out.f (i * 2 + 1)
          have v0 := blk_cell HVB.out 0
          have v1 := blk_cell HVB.out 1
          have hil : i < l.length := by omega
          have HX2 := Lib.hid (HXU.out.set i s (by omega))
          have HK2 := Lib.hid ((HKU.out.set (i * 2) (.int .i64 s.f0)).set (i * 2 + 1) (.int .i64 s.f1))
          go_wp2_with fail
          go_roundw
          case rel => exact ⟨i + 1, j + 1, xs.set i s, by omega, by omega, by go_num, by go_num, by rw [List.length_set]; exact hxl, HX2, Lib.hid (by
            rw [take_succ_filter HSJ.out, ← HKB.out, if_pos rfl, ← HF.out, List.take_add_one, List.getElem?_set_self (by omega), List.take_set_of_le (Nat.le_refl _)]
            rfl), Lib.hid (fun q hq => by rw [List.getElem?_set_ne (by omega)]; exact HS.out q (by omega)), HK2, Lib.hid (fun s hs => ((HBEU.out s hs).setCell (p := ⟨g, i * 2, none⟩) hs _).setCell (p := ⟨g, i * 2 + 1, none⟩) hs _)⟩
          case measure => simp [intOf]; omega
      · obtain rfl : j = l.length := by omega
        have HFL := Lib.hid (show xs.take i = l.filter (keepB limit) by rw [HF.out, List.take_length])
        have HIL := Lib.hid (show (l.filter (keepB limit)).length = i by rw [← HFL.out, List.length_take]; omega)
        have hcl := run_clear_two wr 0 g (i * 2) (l.length - i) (c - i) (by omega) (fun q hq => by
          obtain ⟨d0, d1⟩ := HX.out.c (i + q / 2) xs[i + q / 2] (List.getElem?_eq_getElem (by omega))
          have : q % 2 = 0 ∨ q % 2 = 1 := by omega
          rcases this with h | h
          · rw [show i * 2 + q = (i + q / 2) * 2 by omega, d0]; rfl
          · rw [show i * 2 + q = (i + q / 2) * 2 + 1 by omega, d1]; rfl) HX.out.f
        clear HF
        go_wp2_with fail
        go_ret
        rw [HIL.out, ← HFL.out]
        exact ⟨rfl, HX.out.cut i _, ⟨by rw [(setCells_same _ _ _ _).2.2.2]; exact HK.out.1, fun q hq hg => (setCells_far _ _ q hg).trans (HK.out.2 q hq hg)⟩, fun s hs => (HBE.out s hs).trans ⟨(setCells_same _ _ _ _).1, (setCells_same _ _ _ _).2.1, (setCells_same _ _ _ _).2.2.1, by rw [(setCells_same _ _ _ _).2.2.2]; exact Nat.le_refl _, fun q hq => setCells_far _ _ q (by omega)⟩⟩
end Go.Proofs.Ytnbcnkpcmjkglaa
