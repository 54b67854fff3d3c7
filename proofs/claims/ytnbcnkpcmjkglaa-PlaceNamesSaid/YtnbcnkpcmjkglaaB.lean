/- What 'free' takes of the taken spans: the predicate, the order, and the library's DeleteFunc at spans. -/
import Derived.Test.YtnbcnkpcmjkglaaPx0
import Derived.Lib.Hide
import Derived.Lib.SliceRun
namespace Go.Proofs.Ytnbcnkpcmjkglaa
open Go.RowKit Go.Proofs.Ytnbcnkpcmjkglaa.Px Go.Proofs.YtnbcnkpcmjkglaaW.PrintWords Go.Proofs.YtnbcnkpcmjkglaaW.PrintLast

def keepB (limit : Int) (s : S30) : Bool := !(decide (s.f1 ≤ s.f0) || decide (s.f1 ≤ 0) || decide (limit ≤ s.f0))
theorem blk_at (W : World) (o : Obj) : (W.alloc o).heap[W.heap.size]? = some o := heap_alloc_new W o
/-- The predicate: what is struck. -/
theorem del_calls (s : S30) (B : Nat) (limit : Int) (W : World) (hl : W.cell? ⟨B, 0, none⟩ = some (.int .i64 limit)) :
    Calls Try.prog 32 #[.agg #[.int .i64 s.f0, .int .i64 s.f1], .pointer (some ⟨B, 0, none⟩)] W fun e W' => e = .returned (.bool (!keepB limit s)) ∧ Below W.heap.size W W' := by
  have hb : Below W.heap.size W (W.alloc (Obj.cells #[.int .i64 s.f0, .int .i64 s.f1] 30)) := (Below.refl _ _).alloc (Nat.le_refl _) _
  have c0 := (hb.cell (World.block_lt_of_cell? W _ hl)).trans hl
  have HB := Lib.hid hb
  clear hb hl
  unfold keepB
  rw [Bool.not_not]
  go_enter Try.func32, Try.ntmps32
  by_cases h1 : s.f1 ≤ s.f0
  · rw [decide_eq_true h1]
    go_wp2
    go_ret
    exact ⟨by simp, HB.out⟩
  by_cases h2 : s.f1 ≤ 0
  · rw [decide_eq_false h1, decide_eq_true h2]
    have e1 : decide (s.f1 ≤ s.f0) = false := decide_eq_false h1
    go_wp2
    go_ret
    exact ⟨by simp, HB.out⟩
  rw [decide_eq_false h1, decide_eq_false h2]
  have e1 : decide (s.f1 ≤ s.f0) = false := decide_eq_false h1
  have e2 : decide (s.f1 ≤ 0) = false := decide_eq_false h2
  obtain ⟨b, hb⟩ : ∃ b, b = decide (limit ≤ s.f0) := ⟨_, rfl⟩
  rw [← hb]
  go_wp2
  go_ret
  exact ⟨by simp, HB.out⟩
/-- The order: by beginnings. -/
theorem cmpI_calls (a b : Int) (W : World) : Calls Try.prog 35 #[.int .i64 a, .int .i64 b] W fun e W' => e = .returned (.int .i64 (if a < b then -1 else if b < a then 1 else 0)) ∧ W' = W := by
  go_enter Try.func35, Try.ntmps35
  by_cases h1 : a < b
  · rw [if_pos h1]
    go_wp2
    go_ret
    exact ⟨rfl, rfl⟩
  rw [if_neg h1]
  have h1' : ¬ a < b := h1
  by_cases h2 : b < a
  · rw [if_pos h2]
    go_wp2
    go_ret
    exact ⟨rfl, rfl⟩
  rw [if_neg h2]
  go_wp2
  go_ret
  exact ⟨rfl, rfl⟩
theorem cmp_calls (s t : S30) (W : World) : Calls Try.prog 34 #[.agg #[.int .i64 s.f0, .int .i64 s.f1], .agg #[.int .i64 t.f0, .int .i64 t.f1]] W fun e W' => e = .returned (.int .i64 (if s.f0 < t.f0 then -1 else if t.f0 < s.f0 then 1 else 0)) ∧ W' = (W.alloc (Obj.cells #[.int .i64 s.f0, .int .i64 s.f1] 30)).alloc (Obj.cells #[.int .i64 t.f0, .int .i64 t.f1] 30) := by
  obtain ⟨m, hm⟩ : ∃ m : Int, m = (if s.f0 < t.f0 then -1 else if t.f0 < s.f0 then 1 else 0) := ⟨_, rfl⟩
  have HM := Lib.hid (fun W : World => by have := cmpI_calls s.f0 t.f0 W; rw [← hm] at this; exact this)
  rw [← hm]
  clear hm
  go_enter Try.func34, Try.ntmps34
  go_wp2_with fail
  refine (HM.out _).mono ?_
  rintro e W' ⟨rfl, rfl⟩
  go_wp2
  go_ret
  exact ⟨rfl, rfl⟩
/-- One of some spans that can be read. -/
theorem at_S {w : World} {A : Option Addr} {l : List S30} (h : Kd.C k30 w A l.length l) (k : Nat) (hk : k < l.length) : ∃ ad s, A = some ad ∧ w.cell? (ad.add (k * 2)) = some (.int .i64 s.f0) ∧ w.cell? ⟨(ad.add (k * 2)).block, (ad.add (k * 2)).off + 1, none⟩ = some (.int .i64 s.f1) ∧ l[k]? = some s := by
  obtain ⟨ad, e, h0, h1⟩ := at_T30 h (k : Int) (by omega) (by omega)
  rw [Int.toNat_natCast] at h0 h1
  refine ⟨ad, rd_T30 l k, e, h0, h1, ?_⟩
  rw [rd_T30, Int.toNat_natCast, List.getD_eq_getElem?_getD, List.getElem?_eq_getElem hk]
  rfl
set_option maxHeartbeats 2000000 in
/-- The library's IndexFunc at spans, asked with the predicate. -/
theorem idx_calls (l : List S30) (A : Option Addr) (c B : Nat) (limit : Int) (W : World) (hC : Kd.C k30 W A l.length l) (hl : W.cell? ⟨B, 0, none⟩ = some (.int .i64 limit)) :
    Calls Try.prog 38 #[.slice A l.length c, .func (.func 32) #[] #[.pointer (some ⟨B, 0, none⟩)]] W fun e W' => (∃ r : Int, e = .returned (.int .i64 r) ∧ ((r = -1 ∧ ∀ s ∈ l, keepB limit s = true) ∨ ∃ k : Nat, k < l.length ∧ r = k ∧ (∃ s, l[k]? = some s ∧ keepB limit s = false) ∧ ∀ (j : Nat) s, j < k → l[j]? = some s → keepB limit s = true)) ∧ Below W.heap.size W W' := by
  have HC := Lib.hid hC
  have HL := Lib.hid hl
  have hlen := hC.2.1
  clear hC hl
  go_enter Try.func38, Try.ntmps38
  go_wp2_with fail
  go_loopw [8] (fun i wr => ∃ k : Nat, k ≤ l.length ∧ i = .int .i64 k ∧ Hid (∀ (j : Nat) s, j < k → l[j]? = some s → keepB limit s = true) ∧ Hid (Below W.heap.size W wr)) (fun i _ => l.length - (intOf i).toNat)
  case atStart => exact ⟨0, by omega, rfl, Lib.hid (fun j s h => by omega), Lib.hid (Below.refl _ _)⟩
  case round =>
    obtain ⟨k, hk, rfl, HA, HB⟩ := hrel
    by_cases hlt : k < l.length
    · obtain ⟨ad, s, e, c0, c1, hs⟩ := at_S (Kd.C_below HC.out HB.out) k hlt
      subst e
      have HS := Lib.hid hs
      have hlc := (HB.out.cell (World.block_lt_of_cell? W _ HL.out)).trans HL.out
      clear hs
      go_wp2_with fail
      refine (del_calls s B limit wr hlc).mono ?_
      rintro e u ⟨rfl, hb⟩
      have HB2 := Lib.hid (HB.out.trans (hb.mono HB.out.size))
      clear hb hlc c0 c1
      obtain ⟨b, hb⟩ : ∃ b, b = keepB limit s := ⟨_, rfl⟩
      rw [← hb]
      have HKB := Lib.hid hb
      clear hb
      cases b
      · go_wp2
        go_ret
        exact ⟨⟨_, rfl, .inr ⟨k, hlt, rfl, ⟨s, HS.out, HKB.out.symm⟩, HA.out⟩⟩, HB2.out⟩
      · go_wp2_with fail
        go_roundw
        case rel => exact ⟨k + 1, by omega, by go_num, Lib.hid (fun j t hj ht => by
          by_cases he : j = k
          · subst he
            rw [HS.out] at ht
            cases ht
            exact HKB.out.symm
          · exact HA.out j t (by omega) ht), HB2⟩
        case measure => simp [intOf]; omega
    · go_wp2
      go_ret
      exact ⟨⟨_, rfl, .inl ⟨rfl, fun s hs => by
        obtain ⟨j, hj, rfl⟩ := List.getElem_of_mem hs
        exact HA.out j _ (by omega) (List.getElem?_eq_getElem hj)⟩⟩, HB.out⟩
/-! A row of spans, cell by cell. -/
structure Row (g : Nat) (xs : List S30) (W : World) : Prop where
  lt : g < W.heap.size
  c : ∀ (i : Nat) s, xs[i]? = some s → W.cell? ⟨g, i * 2, none⟩ = some (.int .i64 s.f0) ∧ W.cell? ⟨g, i * 2 + 1, none⟩ = some (.int .i64 s.f1)
  f : ∀ j, W.frozen? ⟨g, j, none⟩ = false
theorem Row.take {g : Nat} {xs : List S30} {W : World} (h : Row g xs W) (n : Nat) : Row g (xs.take n) W :=
  ⟨h.lt, fun i s hs => h.c i s (by rw [List.getElem?_take] at hs; split at hs; exact hs; cases hs), h.f⟩
theorem Row.mv {g : Nat} {xs : List S30} {W W' : World} (h : Row g xs W) (hb : W'.heap[g]? = W.heap[g]?) : Row g xs W' :=
  ⟨by
    rw [Array.getElem?_eq_getElem h.lt] at hb
    exact (Array.getElem?_eq_some_iff.1 hb).1, fun i s hs => ⟨(World.cell?_of_block hb).trans (h.c i s hs).1, (World.cell?_of_block hb).trans (h.c i s hs).2⟩, fun j => by
    have := h.f j
    unfold World.frozen? at this ⊢
    simp only [hb]
    exact this⟩
theorem so (W : World) (g a b : Nat) (u : Value) (h : a ≠ b) : (W.setCell ⟨g, a, none⟩ u).cell? ⟨g, b, none⟩ = W.cell? ⟨g, b, none⟩ :=
  World.cell?_setCell_other _ _ _ _ (fun he => by injection he with _ h2; exact h h2)
theorem ss {W : World} {p : Addr} {u : Value} (v : Value) (h : W.cell? p = some u) : (W.setCell p v).cell? p = some v := World.cell?_setCell_same _ _ _ h
theorem Row.set {g : Nat} {xs : List S30} {W : World} (h : Row g xs W) (i : Nat) (s : S30) (hi : i < xs.length) : Row g (xs.set i s) ((W.setCell ⟨g, i * 2, none⟩ (.int .i64 s.f0)).setCell ⟨g, i * 2 + 1, none⟩ (.int .i64 s.f1)) := by
  refine ⟨by rw [World.size_setCell, World.size_setCell]; exact h.lt, fun k t hk => ?_, fun j => by rw [World.frozen?_setCell, World.frozen?_setCell]; exact h.f j⟩
  by_cases he : k = i
  · subst he
    rw [List.getElem?_set_self hi] at hk
    cases hk
    obtain ⟨c0, c1⟩ := h.c k xs[k] (List.getElem?_eq_getElem hi)
    refine ⟨?_, ss _ (by rw [so _ _ _ _ _ (by omega)]; exact c1)⟩
    rw [so _ _ _ _ _ (by omega)]
    exact ss _ c0
  · rw [List.getElem?_set_ne (by omega)] at hk
    obtain ⟨c0, c1⟩ := h.c k t hk
    refine ⟨?_, ?_⟩
    · rw [so _ _ _ _ _ (by omega), so _ _ _ _ _ (by omega)]
      exact c0
    · rw [so _ _ _ _ _ (by omega), so _ _ _ _ _ (by omega)]
      exact c1
theorem Row.C {g : Nat} {xs : List S30} {W : World} (h : Row g xs W) (hl : xs.length ≤ 9223372036854775807) : Kd.C k30 W (some ⟨g, 0, none⟩) xs.length xs := by
  refine ⟨rfl, hl, fun _ => ⟨_, rfl, fun j q hj => ⟨[.int .i64 q.f0, .int .i64 q.f1], rfl, k30_mk W q, fun i u hu => ?_⟩⟩⟩
  obtain ⟨c0, c1⟩ := h.c j q hj
  match i, hu with
  | 0, hu =>
    simp at hu
    subst hu
    have e : (⟨g, 0, none⟩ : Addr).add (j * 2 + 0) = ⟨g, j * 2, none⟩ := by cases j <;> simp [Addr.add]
    show W.cell? ((⟨g, 0, none⟩ : Addr).add (j * 2 + 0)) = _
    rw [e]; exact c0
  | 1, hu =>
    simp at hu
    subst hu
    have e : (⟨g, 0, none⟩ : Addr).add (j * 2 + 1) = ⟨g, j * 2 + 1, none⟩ := by simp [Addr.add]
    show W.cell? ((⟨g, 0, none⟩ : Addr).add (j * 2 + 1)) = _
    rw [e]; exact c1
  | i + 2, hu => simp at hu
/-- All but one block is as it was. -/
def Kp (g : Nat) (W W' : World) : Prop := W.heap.size ≤ W'.heap.size ∧ ∀ k, k < W.heap.size → k ≠ g → W'.heap[k]? = W.heap[k]?
theorem Kp.refl (g : Nat) (W : World) : Kp g W W := ⟨Nat.le_refl _, fun _ _ _ => rfl⟩
theorem Kp.trans {g : Nat} {W V U : World} (h : Kp g W V) (k : Kp g V U) : Kp g W U := ⟨Nat.le_trans h.1 k.1, fun i hi hg => (k.2 i (Nat.lt_of_lt_of_le hi h.1) hg).trans (h.2 i hi hg)⟩
theorem Kp.below {g : Nat} {W V : World} (h : Below W.heap.size W V) : Kp g W V := ⟨h.size, fun i hi _ => h.block i hi⟩
theorem Kp.set {g : Nat} {W V : World} (h : Kp g W V) (j : Nat) (u : Value) : Kp g W (V.setCell ⟨g, j, none⟩ u) :=
  ⟨by rw [World.size_setCell]; exact h.1, fun i hi hg => (Below.heap_setCell V ⟨g, j, none⟩ u i hg).trans (h.2 i hi hg)⟩
theorem Kp.cell {g : Nat} {W V : World} (h : Kp g W V) {p : Addr} {v : Value} (hp : p.block ≠ g) (hc : W.cell? p = some v) : V.cell? p = some v :=
  (World.cell?_of_block (h.2 p.block (World.block_lt_of_cell? W p hc) hp)).trans hc
theorem run_clear_two (w : World) (ty : TypeId) (b o n c : Nat) (hn : 0 < n) (hc : ∀ j, j < n * 2 → (w.cell? ⟨b, o + j, none⟩).isSome = true) (hf : ∀ j, w.frozen? ⟨b, j, none⟩ = false) :
    (Builtin.clear_ #[22] ty #[.slice (some ⟨b, o, none⟩) n c]).run Try.prog w = .ok (.tuple #[]) (w.setCells b o (List.replicate (n * 2) (.int .i64 0))) := by
  have hzc : (Builtin.zeroCells #[.int .i64 0, .int .i64 0] n).toList = List.replicate (n * 2) (.int .i64 0) := by
    simp [Builtin.zeroCells]
    apply List.ext_getElem
    · simp
    · intro i h1 h2
      simp
      have : i % 2 = 0 ∨ i % 2 = 1 := by omega
      rcases this with h | h <;> simp [h]
  have hst := run_storeCells_cells (P := Try.prog) b o (List.replicate (n * 2) (.int .i64 0)) 0 w (by simpa using hc) (by simpa using fun j _ => hf (o + j)) (by intro v hv'; rw [List.eq_of_mem_replicate hv']; rfl)
  simp only [Nat.add_zero] at hst
  obtain ⟨m, rfl⟩ : ∃ m, n = m + 1 := ⟨n - 1, by omega⟩
  simp [Builtin.clear_, run_underlying Try.underlying22, Try.zeroValue30, Value.cells, hzc, hst]
end Go.Proofs.Ytnbcnkpcmjkglaa
