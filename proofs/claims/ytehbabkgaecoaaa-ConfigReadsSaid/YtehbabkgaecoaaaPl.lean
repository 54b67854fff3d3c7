/- What the statements' 'plain' hands back: the chapter's first example, in new memory. -/
import Derived.Test.YtehbabkgaecoaaaEnE
import Derived.Test.YtehbabkgaecoaaaTW
namespace Go.Proofs.Ytehbabkgaecoaaa
set_option linter.unusedVariables false
set_option linter.unusedSimpArgs false
open Go.RowKit Go.Shelf Go.Proofs.YtehbabkgaecoaaaW.PrintWords Go.Proofs.YtehbabkgaecoaaaW.PrintLast

theorem blk_new_at (W : World) (o : Obj) {n : Nat} (h : W.heap.size = n) : (W.alloc o).heap[n]? = some o := by subst h; exact heap_alloc_new W o
def r4 : List Int := [-1, -1, -1, -1]
def C0 : S29 := ⟨4, [2, 0, 1, 3], 10, 2, 60, 60, 1, 1, [], [r4, r4, r4, r4], [], []⟩
theorem ints_row {W : World} {b : Nat} (l : List Int) (hb : W.heap[b]? = some (Obj.cells (l.map (Value.int .i64)).toArray 3)) (hl : l.length ≤ 9223372036854775807) : Kd.C kI W (some ⟨b, 0, none⟩) l.length l := by
  refine ⟨rfl, hl, fun _ => ⟨_, rfl, fun j p hj => ⟨[.int .i64 p], rfl, rfl, fun i u hu => ?_⟩⟩⟩
  match i, hu with
  | 0, hu =>
    simp at hu
    subst hu
    have := blk_cell hb j
    simp only [List.getElem?_toArray, List.getElem?_map, hj, Option.map_some] at this
    cases j <;> simpa [kI, Kd.int, Kd.scalar, Addr.add] using this
  | i + 1, hu => simp at hu
/-- A row of windows more, in new memory: what append makes of it. -/
theorem win_app {ops : Array Oper} {rest : List Oper} {o : Oper} {a : Act} {Q : Exit → Act → World → Prop} {w W : World} {base s0 : Nat} {v9 : Value} {l : List (List Int)} (B : Nat) (r : List Int) (n : Nat) (hn : r.length = n) (h : Kd.R (Kd.slice 3 kI) 23 W base (fun k => k ≠ B) v9 l) (hbB : B < base) (hbs : base ≤ W.heap.size) (hB : Below s0 w W) (hs0 : s0 ≤ base)
    (s x : Operand) (hgd : o.guard = none) (ho : o.op = .call { callee := .builtin .append, args := #[s, x], argTypes := #[25, 25] }) (hs : a.eval s = v9) {cs : Array Value} (hcs : cs = (r.map (Value.int .i64)).toArray) (hx : a.eval x = .slice (some ⟨W.heap.size + 1, 0, none⟩) 1 1) (hl : (l.length + 1) * 24 ≤ 140737488355328) (hm : r.length ≤ 9223372036854775807)
    (hK : ∀ A c W', Kd.R (Kd.slice 3 kI) 23 W' base (fun k => k ≠ B) (.slice A (l.length + 1) c) (l ++ [r]) → Below s0 w W' → (∀ (g : Nat) (cells : Array Value) (t : TypeId), W.heap[g]? = some (.cells cells t (0, 0)) → 23 ≠ t → W'.heap[g]? = some (.cells cells t (0, 0))) → wpList Try.prog ops Q rest (a.put o.dst (.slice A (l.length + 1) c)) W') :
    wpList Try.prog ops Q (o :: rest) a ((W.alloc (.cells cs 3)).alloc (.cells #[.slice (some ⟨W.heap.size, 0, none⟩) n n] 23)) := by
  subst hcs
  subst hn
  have hr : Kd.R kI 3 (W.alloc (.cells (r.map (Value.int .i64)).toArray 3)) base (fun k => k ≠ B ∧ some k ≠ v9.ownBlock) (.slice (some ⟨W.heap.size, 0, none⟩) r.length r.length) r := by
    refine ⟨fun k hk => ?_, OwnRow.lit W base (Kd.reps_scalar r) hbs hm⟩
    obtain rfl : W.heap.size = k := by simpa [Value.ownBlock] using hk
    exact ⟨by omega, fun he => by have := Kd.R_lt h _ he.symm; omega⟩
  have h1 := Kd.R_alloc h (.cells (r.map (Value.int .i64)).toArray 3)
  have hB1 := hB.alloc (by omega) (.cells (r.map (Value.int .i64)).toArray 3)
  have hsz : (W.alloc (.cells (r.map (Value.int .i64)).toArray 3)).heap.size = W.heap.size + 1 := World.size_alloc _ _
  rw [← hsz] at hx
  refine Kd.R_append (Kd.slice 3 kI) (w0 := W.alloc (.cells (r.map (Value.int .i64)).toArray 3)) base hgd s x 25 23 (.slice none 0 0) 24 ho Try.underlying25 info23 rfl (by decide) (by omega) v9 l r [.slice (some ⟨W.heap.size, 0, none⟩) r.length r.length] (fun k => k ≠ B) (fun k => k ≠ B ∧ some k ≠ v9.ownBlock) hs hx (Kd.M_row hr) (fun k hk => hk) (fun k hk => by omega) h1 (Below.refl _ _) (by omega) hl ?_
  intro v1 W1 ho1 hb1 hg1 _
  obtain ⟨A, c, hv⟩ := Kd.R_slice ho1
  rw [List.length_append, List.length_singleton] at hv
  subst hv
  exact hK A c W1 ho1 (pw_below_grown hB1 _ (by omega) hg1 (fun k he => by have := Kd.R_base h1 k he; omega)) (fun g cells t hb ht => blk_grown (blk_alloc hb _) hg1 (Kd.R_ne h1 (blk_alloc hb _) ht))
set_option maxRecDepth 100000 in
set_option maxHeartbeats 16000000 in
theorem plain_calls (w : World) : Calls Try.prog 31 #[] w fun e w' => ∃ (A1 A9 : Option Addr) (c1 c9 : Nat), e = .returned (.agg #[.int .i64 4, .slice A1 4 c1, .int .i64 10, .int .i64 2, .int .i64 60, .int .i64 60, .int .i64 1, .int .i64 1, .slice none 0 0, .slice A9 4 c9, .slice none 0 0, .slice none 0 0]) ∧ CfgIn w' C0 A1 none A9 none none c1 0 c9 0 0 ∧ Below w.heap.size w w' := by
  go_enter Try.func31, Try.ntmps31
  have HB := Lib.hid (show Below w.heap.size w (((w.alloc (Obj.cells #[.int .i64 0, .slice none 0 0, .int .i64 0, .int .i64 0, .int .i64 0, .int .i64 0, .int .i64 0, .int .i64 0, .slice none 0 0, .slice none 0 0, .slice none 0 0, .slice none 0 0] 29)).alloc (Obj.cells #[.int .i64 2, .int .i64 0, .int .i64 1, .int .i64 3] 3)).alloc (Obj.cells #[.int .i64 4, .slice (some ⟨w.heap.size + 1, 0, none⟩) 4 4, .int .i64 10, .int .i64 2, .int .i64 60, .int .i64 60, .int .i64 1, .int .i64 1, .slice none 0 0, (.slice none 0 0), .slice none 0 0, .slice none 0 0] 29)) from (((Below.refl _ _).alloc (Nat.le_refl _) _).alloc (by simp) _).alloc (by simp; omega) _)
  have H0 := Lib.hid (show (((w.alloc (Obj.cells #[.int .i64 0, .slice none 0 0, .int .i64 0, .int .i64 0, .int .i64 0, .int .i64 0, .int .i64 0, .int .i64 0, .slice none 0 0, .slice none 0 0, .slice none 0 0, .slice none 0 0] 29)).alloc (Obj.cells #[.int .i64 2, .int .i64 0, .int .i64 1, .int .i64 3] 3)).alloc (Obj.cells #[.int .i64 4, .slice (some ⟨w.heap.size + 1, 0, none⟩) 4 4, .int .i64 10, .int .i64 2, .int .i64 60, .int .i64 60, .int .i64 1, .int .i64 1, .slice none 0 0, (.slice none 0 0), .slice none 0 0, .slice none 0 0] 29)).heap[w.heap.size]? = some (Obj.cells #[.int .i64 0, .slice none 0 0, .int .i64 0, .int .i64 0, .int .i64 0, .int .i64 0, .int .i64 0, .int .i64 0, .slice none 0 0, .slice none 0 0, .slice none 0 0, .slice none 0 0] 29) from blk_alloc (blk_alloc (blk_new w _) _) _)
  have H1 := Lib.hid (show (((w.alloc (Obj.cells #[.int .i64 0, .slice none 0 0, .int .i64 0, .int .i64 0, .int .i64 0, .int .i64 0, .int .i64 0, .int .i64 0, .slice none 0 0, .slice none 0 0, .slice none 0 0, .slice none 0 0] 29)).alloc (Obj.cells #[.int .i64 2, .int .i64 0, .int .i64 1, .int .i64 3] 3)).alloc (Obj.cells #[.int .i64 4, .slice (some ⟨w.heap.size + 1, 0, none⟩) 4 4, .int .i64 10, .int .i64 2, .int .i64 60, .int .i64 60, .int .i64 1, .int .i64 1, .slice none 0 0, (.slice none 0 0), .slice none 0 0, .slice none 0 0] 29)).heap[w.heap.size + 1]? = some (Obj.cells #[.int .i64 2, .int .i64 0, .int .i64 1, .int .i64 3] 3) from blk_alloc (blk_new_at _ _ (by simp)) _)
  have H2 := Lib.hid (show (((w.alloc (Obj.cells #[.int .i64 0, .slice none 0 0, .int .i64 0, .int .i64 0, .int .i64 0, .int .i64 0, .int .i64 0, .int .i64 0, .slice none 0 0, .slice none 0 0, .slice none 0 0, .slice none 0 0] 29)).alloc (Obj.cells #[.int .i64 2, .int .i64 0, .int .i64 1, .int .i64 3] 3)).alloc (Obj.cells #[.int .i64 4, .slice (some ⟨w.heap.size + 1, 0, none⟩) 4 4, .int .i64 10, .int .i64 2, .int .i64 60, .int .i64 60, .int .i64 1, .int .i64 1, .slice none 0 0, (.slice none 0 0), .slice none 0 0, .slice none 0 0] 29)).heap[w.heap.size + 1 + 1]? = some (Obj.cells #[.int .i64 4, .slice (some ⟨w.heap.size + 1, 0, none⟩) 4 4, .int .i64 10, .int .i64 2, .int .i64 60, .int .i64 60, .int .i64 1, .int .i64 1, .slice none 0 0, (.slice none 0 0), .slice none 0 0, .slice none 0 0] 29) from blk_new_at _ _ (by simp))
  go_wp2
  generalize hSW : (((w.alloc (Obj.cells #[.int .i64 0, .slice none 0 0, .int .i64 0, .int .i64 0, .int .i64 0, .int .i64 0, .int .i64 0, .int .i64 0, .slice none 0 0, .slice none 0 0, .slice none 0 0, .slice none 0 0] 29)).alloc (Obj.cells #[.int .i64 2, .int .i64 0, .int .i64 1, .int .i64 3] 3)).alloc (Obj.cells #[.int .i64 4, .slice (some ⟨w.heap.size + 1, 0, none⟩) 4 4, .int .i64 10, .int .i64 2, .int .i64 60, .int .i64 60, .int .i64 1, .int .i64 1, .slice none 0 0, (.slice none 0 0), .slice none 0 0, .slice none 0 0] 29)) = SW at *
  have HSZ := Lib.hid (show SW.heap.size = w.heap.size + 1 + 1 + 1 by rw [← hSW]; simp)
  clear hSW
  go_loopw [2] (fun i W => ∃ (k : Nat) (v9 : Value), k ≤ 4 ∧ i = .int .i64 k ∧ Hid (Kd.R (Kd.slice 3 kI) 23 W (w.heap.size + 1 + 1 + 1) (fun k => k ≠ w.heap.size + 1 + 1) v9 (List.replicate k r4)) ∧ Hid (W.heap[w.heap.size]? = some (Obj.cells #[.int .i64 0, .slice none 0 0, .int .i64 0, .int .i64 0, .int .i64 0, .int .i64 0, .int .i64 0, .int .i64 0, .slice none 0 0, .slice none 0 0, .slice none 0 0, .slice none 0 0] 29)) ∧ Hid (W.heap[w.heap.size + 1]? = some (Obj.cells #[.int .i64 2, .int .i64 0, .int .i64 1, .int .i64 3] 3)) ∧ Hid (W.heap[w.heap.size + 1 + 1]? = some (Obj.cells #[.int .i64 4, .slice (some ⟨w.heap.size + 1, 0, none⟩) 4 4, .int .i64 10, .int .i64 2, .int .i64 60, .int .i64 60, .int .i64 1, .int .i64 1, .slice none 0 0, v9, .slice none 0 0, .slice none 0 0] 29)) ∧ Hid (w.heap.size + 1 + 1 + 1 ≤ W.heap.size) ∧ Hid (Below w.heap.size w W)) (fun i _ => 4 - (intOf i).toNat)
  case atStart => exact ⟨0, _, by omega, rfl, Lib.hid (Kd.R_nil _ _ _ _ _), H0, H1, H2, Lib.hid (Nat.le_of_eq HSZ.out.symm), HB⟩
  case round =>
    clear H0 H1 H2 HB HSZ
    obtain ⟨k, v9, hk, rfl, HR9, H0, H1, H2, HSZ, HB⟩ := hrel
    by_cases hlt : k < 4
    · obtain ⟨Av9, cv9, hv⟩ := Kd.R_slice HR9.out
      rw [List.length_replicate] at hv
      subst hv
      have z9 := blk_cell (blk_alloc (blk_alloc H2.out (Obj.cells #[.int .i64 (-1), .int .i64 (-1), .int .i64 (-1), .int .i64 (-1)] 3)) (Obj.cells #[.slice (some ⟨wr.heap.size, 0, none⟩) 4 4] 23)) 9
      have z9' := blk_cell H2.out 9
      go_wp2_with (first | ((with_reducible refine gate_z (b := .append) (xs := #[.tmp 10, .tmp 12]) rfl ?_); at_builtin; refine win_app (w.heap.size + 1 + 1) r4 4 rfl HR9.out (by omega) HSZ.out HB.out (by omega) (.tmp 10) (.tmp 12) rfl rfl rfl rfl rfl (by rw [List.length_replicate]; omega) (by simp [r4]) ?_; intro A5 c5 W5 h5 hb5 hk5; have a0 := hk5 _ _ _ H0.out (by decide); have a1 := hk5 _ _ _ H1.out (by decide); have a2 := hk5 _ _ _ H2.out (by decide); have q9 := blk_cell a2 9; have qf9 := blk_frozen a2 9; rw [List.length_replicate] at h5 ⊢; have HA0 := Lib.hid a0; have HA1 := Lib.hid a1; have HA2 := Lib.hid a2; have H5 := Lib.hid h5; have HB5 := Lib.hid hb5; clear a0 a1 a2 h5 hb5 hk5 z9 z9'))
      go_roundw
      case rel => exact ⟨k + 1, (.slice A5 (k + 1) c5), by omega, by go_num, Lib.hid (by rw [List.replicate_succ']; exact Kd.R_far H5.out (p := ⟨w.heap.size + 1 + 1, 9, none⟩) (fun k hk => hk) _), Lib.hid (blk_far HA0.out (p := ⟨w.heap.size + 1 + 1, 9, none⟩) (by simp; omega) _), Lib.hid (blk_far HA1.out (p := ⟨w.heap.size + 1 + 1, 9, none⟩) (by simp) _), Lib.hid (blk_set HA2.out 9 _), Lib.hid (by rw [World.size_setCell]; have := blk_lt HA2.out; omega), Lib.hid (HB5.out.setCell (p := ⟨w.heap.size + 1 + 1, 9, none⟩) (by simp; omega) _)⟩
      case measure => simp [intOf]; omega
    · obtain rfl : k = 4 := by omega
      obtain ⟨Av9, cv9, hv⟩ := Kd.R_slice HR9.out
      rw [List.length_replicate] at hv
      subst hv
      have ⟨t0, t1, t2, t3, t4, t5, t6, t7, t8, t9, t10, t11⟩ := cfg_cells H2.out
      have ⟨z0, z1, z2, z3, z4, z5, z6, z7, z8, z9, z10, z11⟩ := cfg_cells H0.out
      have zf0 := blk_frozen H0.out 0
      have zf1 := blk_frozen H0.out 1
      have zf2 := blk_frozen H0.out 2
      have zf3 := blk_frozen H0.out 3
      have zf4 := blk_frozen H0.out 4
      have zf5 := blk_frozen H0.out 5
      have zf6 := blk_frozen H0.out 6
      have zf7 := blk_frozen H0.out 7
      have zf8 := blk_frozen H0.out 8
      have zf9 := blk_frozen H0.out 9
      have zf10 := blk_frozen H0.out 10
      have zf11 := blk_frozen H0.out 11
      go_wp2
      obtain ⟨hF, hK, hB⟩ := store12 H0.out (.int .i64 4) (.slice (some ⟨w.heap.size + 1, 0, none⟩) 4 4) (.int .i64 10) (.int .i64 2) (.int .i64 60) (.int .i64 60) (.int .i64 1) (.int .i64 1) (.slice none 0 0) (.slice Av9 4 cv9) (.slice none 0 0) (.slice none 0 0) (s := w.heap.size) (w := w) (by omega) HB.out
      generalize hFW : ((((((((((((wr.setCell ⟨w.heap.size, 0, none⟩ (.int .i64 4)).setCell ⟨w.heap.size, 1, none⟩ (.slice (some ⟨w.heap.size + 1, 0, none⟩) 4 4)).setCell ⟨w.heap.size, 2, none⟩ (.int .i64 10)).setCell ⟨w.heap.size, 3, none⟩ (.int .i64 2)).setCell ⟨w.heap.size, 4, none⟩ (.int .i64 60)).setCell ⟨w.heap.size, 5, none⟩ (.int .i64 60)).setCell ⟨w.heap.size, 6, none⟩ (.int .i64 1)).setCell ⟨w.heap.size, 7, none⟩ (.int .i64 1)).setCell ⟨w.heap.size, 8, none⟩ (.slice none 0 0)).setCell ⟨w.heap.size, 9, none⟩ (.slice Av9 4 cv9)).setCell ⟨w.heap.size, 10, none⟩ (.slice none 0 0)).setCell ⟨w.heap.size, 11, none⟩ (.slice none 0 0)) = FW at *
      clear hFW z0 z1 z2 z3 z4 z5 z6 z7 z8 z9 z10 z11 t0 t1 t2 t3 t4 t5 t6 t7 t8 t9 t10 t11 zf0 zf1 zf2 zf3 zf4 zf5 zf6 zf7 zf8 zf9 zf10 zf11
      have r9 := Kd.R_keep (Kd.R_types HR9.out H0.out (by decide)) hK (fun k hk => hk.2)
      have h1 := hK.blk H1.out (by omega) (by simp)
      have hin := Lib.hid (show CfgIn FW C0 (some ⟨w.heap.size + 1, 0, none⟩) none Av9 none none 4 0 cv9 0 0 from ⟨⟨by simp [C0], ints_row [2, 0, 1, 3] h1 (by simp)⟩, ⟨by simp [C0], Kd.C_nil _ _⟩, ⟨(Kd.R_reads' r9).2.1, (Kd.R_reads' r9).2.2⟩, ⟨by simp [C0], Kd.C_nil _ _⟩, by simp [C0], Kd.C_nil _ _⟩)
      obtain ⟨c0', c1', c2', c3', c4', c5', c6', c7', c8', c9', c10', c11'⟩ := cfg_cells hF
      have HBF := Lib.hid hB
      clear r9 h1 hF hK hB
      refine bodyPost_ret (v := .agg #[.int .i64 4, .slice (some ⟨w.heap.size + 1, 0, none⟩) 4 4, .int .i64 10, .int .i64 2, .int .i64 60, .int .i64 60, .int .i64 1, .int .i64 1, .slice none 0 0, .slice Av9 4 cv9, .slice none 0 0, .slice none 0 0]) (by simp [results, Try.f31, go_sem, c0', c1', c2', c3', c4', c5', c6', c7', c8', c9', c10', c11']) rfl ?_
      exact ⟨_, _, _, _, rfl, hin.out, HBF.out⟩
theorem plain_check : checkN C0 = 0 := by decide +kernel
theorem plain_prec : precW C0 = 25 := by decide +kernel
theorem plain_owner : ownerW C0 5 = 0 := by decide +kernel
theorem plain_turn : idxI C0.f1 1 = 2 := by decide +kernel
theorem plain_enc : (encS C0).2 = 0 ∧ (encS C0).1.length = 148 ∧ (encS C0).1.take 8 = [82, 79, 84, 65, 0, 0, 0, 4] := by decide +kernel
theorem plain_num : (cfgNums C0).length = 36 := by decide +kernel
end Go.Proofs.Ytehbabkgaecoaaa
