/- The closures of config.numbers: lead and list. -/
import Derived.Test.YtehbabkgaecoaaaRegE
namespace Go.Proofs.Ytehbabkgaecoaaa
set_option linter.unusedVariables false
set_option linter.unusedSimpArgs false
open Go.RowKit Go.Shelf Go.Proofs.YtehbabkgaecoaaaW.PrintWords Go.Proofs.YtehbabkgaecoaaaW.PrintLast

/-- All but two blocks and one row's own block is as it was. -/
def Keep2 (w w' : World) (F O : Nat) (row : Option Nat) : Prop := w.heap.size ≤ w'.heap.size ∧ ∀ i, i < w.heap.size → i ≠ F → i ≠ O → some i ≠ row → w'.heap[i]? = w.heap[i]?
theorem Keep2.blk {w w1 : World} {F O g : Nat} {row : Option Nat} {o : Obj} (h : Keep2 w w1 F O row) (hb : w.heap[g]? = some o) (h1 : g ≠ F) (h2 : g ≠ O) (hr : some g ≠ row) : w1.heap[g]? = some o := (h.2 g (blk_lt hb) h1 h2 hr).trans hb
set_option maxRecDepth 100000 in
set_option maxHeartbeats 16000000 in
theorem lead_calls (n : Int) (b : Bool) (F O s : Nat) (v : Value) (l : List Int) (ok : Nat → Prop) (w0 w : World) (hFO : F ≠ O) (hF : w.heap[F]? = some (Obj.cells #[.bool b] 4)) (hO : w.heap[O]? = some (Obj.cells #[v] 23)) (hR : Kd.R kI 3 w s ok v l) (hok : ∀ k, ok k → k ≠ F ∧ k ≠ O) (hfr : ∀ k, w.heap.size ≤ k → ok k) (hsF : s ≤ F) (hsO : s ≤ O) (hB : Below s w0 w) (hl : (l.length + 1) * 8 ≤ 140737488355328) :
    Calls Try.prog 61 #[.int .i64 n, .pointer (some ⟨F, 0, none⟩), .pointer (some ⟨O, 0, none⟩)] w fun e w' => e = .returned (.tuple #[]) ∧ ∃ v', w'.heap[F]? = some (Obj.cells #[.bool (b && decide (n ≤ 65535))] 4) ∧ w'.heap[O]? = some (Obj.cells #[v'] 23) ∧ Kd.R kI 3 w' s ok v' (l ++ [n]) ∧ Below s w0 w' ∧ Keep2 w w' F O v.ownBlock ∧ (v'.ownBlock = v.ownBlock ∨ ∃ g, v'.ownBlock = some g ∧ w.heap.size ≤ g) := by
  have hsb : s ≤ (w.setCell ⟨F, 0, none⟩ (.bool (b && decide (n ≤ 65535)))).heap.size := by rw [World.size_setCell]; have := blk_lt hF; omega
  have hF1 := blk_set hF 0 (.bool (b && decide (n ≤ 65535)))
  have hO1 := blk_far hO (p := ⟨F, 0, none⟩) (fun h => hFO h.symm) (.bool (b && decide (n ≤ 65535)))
  have hR1 := Kd.R_far hR (p := ⟨F, 0, none⟩) (fun k hk => (hok k hk).1) (.bool (b && decide (n ≤ 65535)))
  have hB1 := hB.setCell (p := ⟨F, 0, none⟩) hsF (.bool (b && decide (n ≤ 65535)))
  have cF := blk_cell hF 0
  have fF := blk_frozen hF 0
  have cO := blk_cell hO1 0
  have hsz : (w.setCell ⟨F, 0, none⟩ (.bool (b && decide (n ≤ 65535)))).heap.size = w.heap.size := World.size_setCell _ _ _
  have hk1 : ∀ i, i ≠ F → (w.setCell ⟨F, 0, none⟩ (.bool (b && decide (n ≤ 65535)))).heap[i]? = w.heap[i]? := fun i hi => Below.heap_setCell w ⟨F, 0, none⟩ _ i hi
  have HF := Lib.hid hF1
  have HO := Lib.hid hO1
  have HR := Lib.hid hR1
  have HB := Lib.hid hB1
  have HK := Lib.hid hk1
  have HSZ := Lib.hid hsz
  have HSB := Lib.hid hsb
  have HOK := Lib.hid hok
  have HFR := Lib.hid hfr
  have HFO := Lib.hid hFO
  have HsO := Lib.hid hsO
  have HsF := Lib.hid hsF
  have HL := Lib.hid hl
  clear hF1 hO1 hR1 hB1 hk1 hsz hsb hok hfr hFO hF hO hR hB hl hsO hsF
  obtain ⟨β, hβ⟩ : ∃ β, β = (b && decide (n ≤ 65535)) := ⟨_, rfl⟩
  rw [← hβ] at HF HO HR HB HK HSZ HSB cO ⊢
  go_enter Try.func61, Try.ntmps61
  cases b with
  | false =>
    obtain rfl : β = false := by rw [hβ]; rfl
    clear hβ
    go_wp2_with (first | ((with_reducible refine gate_z (b := .append) (xs := #[.tmp 9, .tmp 11]) rfl ?_); at_builtin; refine Kd.R_append kI (w0 := w0) s rfl (.tmp 9) (.tmp 11) 23 3 (.int .i64 0) 8 rfl Try.underlying23 info3 rfl (Nat.zero_lt_one) (by omega) v l n [.int .i64 n] ok (fun _ => False) rfl (by rw [HSZ.out]; rfl) rfl (fun _ hk => hk.elim) (fun k hk => HFR.out k (by rw [HSZ.out] at hk; exact hk)) HR.out HB.out HSB.out HL.out ?_; intro v5 W5 ho5 hb5 hg5 hat5; obtain ⟨A5, k5, hv5⟩ := Kd.R_slice ho5; rw [List.length_append, List.length_singleton] at hv5; subst hv5; have HO5 := Lib.hid (blk_grown HO.out hg5 (Kd.R_ne HR.out HO.out (by decide))); have HF5 := Lib.hid (blk_grown HF.out hg5 (Kd.R_ne HR.out HF.out (by decide))); have HR5 := Lib.hid ho5; have HB5 := Lib.hid hb5; have HG5 := Lib.hid hg5; have HAT := Lib.hid hat5; have c5 := blk_cell HO5.out 0; have f5 := blk_frozen HO5.out 0; clear ho5 hb5 hg5 hat5))
    go_end0
    refine ⟨rfl, (.slice A5 (l.length + 1) k5), blk_far HF5.out (p := ⟨O, 0, none⟩) HFO.out _, blk_set HO5.out 0 _, Kd.R_far HR5.out (p := ⟨O, 0, none⟩) (fun k hk => (HOK.out k hk).2) _, HB5.out.setCell (p := ⟨O, 0, none⟩) HsO.out _, ⟨?_, fun i hi h1 h2 h3 => ?_⟩, ?_⟩
    · have h := HG5.out.size; rw [HSZ.out] at h; rw [World.size_setCell]; exact h
    · rw [Below.heap_setCell W5 ⟨O, 0, none⟩ _ i h2, HG5.out.block i (by rw [HSZ.out]; exact hi) h3, HK.out i h1]
    · have h := HAT.out; rw [HSZ.out] at h; exact h
  | true =>
    obtain rfl : β = decide (n ≤ 65535) := by rw [hβ]; rfl
    clear hβ
    go_wp2_with (first | ((with_reducible refine gate_z (b := .append) (xs := #[.tmp 9, .tmp 11]) rfl ?_); at_builtin; refine Kd.R_append kI (w0 := w0) s rfl (.tmp 9) (.tmp 11) 23 3 (.int .i64 0) 8 rfl Try.underlying23 info3 rfl (Nat.zero_lt_one) (by omega) v l n [.int .i64 n] ok (fun _ => False) rfl (by rw [HSZ.out]; rfl) rfl (fun _ hk => hk.elim) (fun k hk => HFR.out k (by rw [HSZ.out] at hk; exact hk)) HR.out HB.out HSB.out HL.out ?_; intro v5 W5 ho5 hb5 hg5 hat5; obtain ⟨A5, k5, hv5⟩ := Kd.R_slice ho5; rw [List.length_append, List.length_singleton] at hv5; subst hv5; have HO5 := Lib.hid (blk_grown HO.out hg5 (Kd.R_ne HR.out HO.out (by decide))); have HF5 := Lib.hid (blk_grown HF.out hg5 (Kd.R_ne HR.out HF.out (by decide))); have HR5 := Lib.hid ho5; have HB5 := Lib.hid hb5; have HG5 := Lib.hid hg5; have HAT := Lib.hid hat5; have c5 := blk_cell HO5.out 0; have f5 := blk_frozen HO5.out 0; clear ho5 hb5 hg5 hat5))
    go_end0
    refine ⟨rfl, (.slice A5 (l.length + 1) k5), blk_far HF5.out (p := ⟨O, 0, none⟩) HFO.out _, blk_set HO5.out 0 _, Kd.R_far HR5.out (p := ⟨O, 0, none⟩) (fun k hk => (HOK.out k hk).2) _, HB5.out.setCell (p := ⟨O, 0, none⟩) HsO.out _, ⟨?_, fun i hi h1 h2 h3 => ?_⟩, ?_⟩
    · have h := HG5.out.size; rw [HSZ.out] at h; rw [World.size_setCell]; exact h
    · rw [Below.heap_setCell W5 ⟨O, 0, none⟩ _ i h2, HG5.out.block i (by rw [HSZ.out]; exact hi) h3, HK.out i h1]
    · have h := HAT.out; rw [HSZ.out] at h; exact h
set_option maxRecDepth 100000 in
set_option maxHeartbeats 16000000 in
theorem list_calls (xs : List Int) (A : Option Addr) (c : Nat) (b : Bool) (F O L : Nat) (v : Value) (l : List Int) (ok : Nat → Prop) (w0 w : World) (hFO : F ≠ O) (hLF : L ≠ F) (hLO : L ≠ O) (hF : w.heap[F]? = some (Obj.cells #[.bool b] 4)) (hO : w.heap[O]? = some (Obj.cells #[v] 23)) (hL : w.heap[L]? = some (Obj.cells #[.func (.func 61) #[] #[.pointer (some ⟨F, 0, none⟩), .pointer (some ⟨O, 0, none⟩)]] 80)) (hR : Kd.R kI 3 w w0.heap.size ok v l) (hok : ∀ k, ok k → k ≠ F ∧ k ≠ O) (hfr : ∀ k, w.heap.size ≤ k → ok k) (hsF : w0.heap.size ≤ F) (hsO : w0.heap.size ≤ O) (hB : Below w0.heap.size w0 w) (hX : Kd.C kI w0 A xs.length xs) (hl : (l.length + 1 + xs.length) * 8 ≤ 140737488355328) :
    Calls Try.prog 62 #[.slice A xs.length c, .pointer (some ⟨L, 0, none⟩), .pointer (some ⟨O, 0, none⟩)] w fun e w' => e = .returned (.tuple #[]) ∧ ∃ v', w'.heap[F]? = some (Obj.cells #[.bool (b && decide ((xs.length : Int) ≤ 65535))] 4) ∧ w'.heap[O]? = some (Obj.cells #[v'] 23) ∧ Kd.R kI 3 w' w0.heap.size ok v' (l ++ (xs.length : Int) :: xs) ∧ Below w0.heap.size w0 w' ∧ Keep2 w w' F O v.ownBlock ∧ (v'.ownBlock = v.ownBlock ∨ ∃ g, v'.ownBlock = some g ∧ w.heap.size ≤ g) := by
  have cL := blk_cell hL 0
  have HF := Lib.hid hF
  have HO := Lib.hid hO
  have HR := Lib.hid hR
  have HB := Lib.hid hB
  have HX := Lib.hid hX
  have HOK := Lib.hid hok
  have HFR := Lib.hid hfr
  have HFO := Lib.hid hFO
  have HsO := Lib.hid hsO
  have HsF := Lib.hid hsF
  have HLL := Lib.hid hl
  clear hF hO hR hB hX hok hfr hFO hsO hsF hl hL hLF hLO
  go_enter Try.func62, Try.ntmps62
  go_wp2_with fail
  refine (lead_calls (xs.length : Int) b F O w0.heap.size v l ok w0 _ HFO.out HF.out HO.out HR.out HOK.out HFR.out HsF.out HsO.out HB.out (by have := HLL.out; omega)).mono ?_
  rintro e W1 ⟨rfl, v1, hF1, hO1, hR1, hB1, hK1, hat1⟩
  have HF1 := Lib.hid hF1
  have HO1 := Lib.hid hO1
  have HR1 := Lib.hid hR1
  have HB1 := Lib.hid hB1
  have HK1 := Lib.hid hK1
  have HAT1 := Lib.hid hat1
  have cO := blk_cell hO1 0
  have hsb : w0.heap.size ≤ W1.heap.size := hB1.size
  have HSB := Lib.hid hsb
  clear hF1 hO1 hR1 hB1 hK1 hat1 hsb cL
  go_wp2_with (first | ((with_reducible refine gate_z (b := .append) (xs := #[.tmp 8, .tmp 9]) rfl ?_); at_builtin; refine Kd.R_append_rows kI (Rr := kI.K W1) (w0 := w0) w0.heap.size rfl (.tmp 8) (.tmp 9) 23 3 (.int .i64 0) 8 rfl Try.underlying23 info3 rfl (by decide) (by omega) v1 (l ++ [(xs.length : Int)]) xs A xs.length c ok (fun _ => False) rfl rfl HR1.out (Kd.C_below HX.out HB1.out) (fun x cs hk => hk) (fun _ hk => hk.elim) (fun k hk => HFR.out k (Nat.le_trans HK1.out.1 hk)) HB1.out HSB.out (by have := HLL.out; rw [List.length_append, List.length_singleton]; exact this) ?_; intro v5 W5 ho5 hb5 hg5 hat5; obtain ⟨A5, k5, hv5⟩ := Kd.R_slice ho5; rw [List.append_assoc, List.singleton_append] at ho5 hv5; rw [List.length_append, List.length_cons] at hv5; subst hv5; have HO5 := Lib.hid (blk_grown HO1.out hg5 (Kd.R_ne HR1.out HO1.out (by decide))); have HF5 := Lib.hid (blk_grown HF1.out hg5 (Kd.R_ne HR1.out HF1.out (by decide))); have HR5 := Lib.hid ho5; have HB5 := Lib.hid hb5; have HG5 := Lib.hid hg5; have HAT := Lib.hid hat5; have c5 := blk_cell HO5.out 0; have f5 := blk_frozen HO5.out 0; clear ho5 hb5 hg5 hat5))
  go_end0
  refine ⟨rfl, _, blk_far HF5.out (p := ⟨O, 0, none⟩) HFO.out _, blk_set HO5.out 0 _, Kd.R_far HR5.out (p := ⟨O, 0, none⟩) (fun k hk => (HOK.out k hk).2) _, HB5.out.setCell (p := ⟨O, 0, none⟩) HsO.out _, ⟨?_, fun i hi h1 h2 h3 => ?_⟩, ?_⟩
  · rw [World.size_setCell]; exact Nat.le_trans HK1.out.1 HG5.out.size
  · have hne : some i ≠ v1.ownBlock := by
      rcases HAT1.out with h | ⟨g, hg, hgg⟩
      · rw [h]; exact h3
      · rw [hg]; intro he; cases he; omega
    rw [Below.heap_setCell W5 ⟨O, 0, none⟩ _ i h2, HG5.out.block i (Nat.lt_of_lt_of_le hi HK1.out.1) hne, HK1.out.2 i hi h1 h2 h3]
  · rcases HAT.out with h | ⟨g, hg, hgg⟩
    · have h1 := HAT1.out; rw [← h] at h1; exact h1
    · exact .inr ⟨g, hg, Nat.le_trans HK1.out.1 hgg⟩
end Go.Proofs.Ytehbabkgaecoaaa
