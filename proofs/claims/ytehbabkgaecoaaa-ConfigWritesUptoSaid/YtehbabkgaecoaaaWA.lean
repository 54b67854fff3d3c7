
/- rotaref02's writer: put, num, lead, list (the document's Encode). -/
import Derived.Test.YtehbabkgaecoaaaEnE

namespace Go.Proofs.Ytehbabkgaecoaaa
set_option linter.unusedVariables false
set_option linter.unusedSimpArgs false
open Go.RowKit Go.Shelf Go.Proofs.YtehbabkgaecoaaaW.PrintWords Go.Proofs.YtehbabkgaecoaaaW.PrintLast

/-- All blocks that hold no bytes are as they were, but one. -/
def FrO (O : Option Nat) (W W' : World) : Prop := W.heap.size ≤ W'.heap.size ∧ ∀ (g : Nat) (cells : Array Value) (t : TypeId), W.heap[g]? = some (.cells cells t (0, 0)) → 5 ≠ t → some g ≠ O → W'.heap[g]? = some (.cells cells t (0, 0))
theorem FrO.refl (O : Option Nat) (W : World) : FrO O W W := ⟨Nat.le_refl _, fun _ _ _ h _ _ => h⟩
theorem FrO.trans {O : Option Nat} {W W1 W2 : World} (h : FrO O W W1) (k : FrO O W1 W2) : FrO O W W2 := ⟨Nat.le_trans h.1 k.1, fun g c t hb ht ho => k.2 g c t (h.2 g c t hb ht ho) ht ho⟩
theorem FrO.below {O : Option Nat} {W W' : World} (h : Below W.heap.size W W') : FrO O W W' := ⟨h.size, fun g c t hb _ _ => (h.block g (blk_lt hb)).trans hb⟩
theorem FrO.weak {O : Option Nat} {W W' : World} (h : FrO none W W') : FrO O W W' := ⟨h.1, fun g c t hb ht _ => h.2 g c t hb ht (by simp)⟩
theorem ints_rw {W : World} {b : Nat} (l : List Int) (hb : W.heap[b]? = some (Obj.cells (l.map (Value.int .i64)).toArray 3)) (hl : l.length ≤ 9223372036854775807) : Kd.C kI W (some ⟨b, 0, none⟩) l.length l := by
  refine ⟨rfl, hl, fun _ => ⟨_, rfl, fun j p hj => ⟨[.int .i64 p], rfl, rfl, fun i u hu => ?_⟩⟩⟩
  match i, hu with
  | 0, hu =>
    simp at hu
    subst hu
    have := blk_cell hb j
    simp only [List.getElem?_toArray, List.getElem?_map, hj, Option.map_some] at this
    cases j <;> simpa [kI, Kd.int, Kd.scalar, Addr.add] using this
  | i + 1, hu => simp at hu
theorem u4_app {ops : Array Oper} {rest : List Oper} {o : Oper} {a : Act} {Q : Exit → Act → World → Prop} {V W : World} {v : Value} {bs : List Int} (h : ES V v bs W) (hB : Below V.heap.size V W) (b0 b1 b2 b3 : Int) (s x : Operand) (hgd : o.guard = none)
    (ho : o.op = .call { callee := .builtin .append, args := #[s, x], argTypes := #[22, 22] }) (hs : a.eval s = v) (hx : a.eval x = .slice (some ⟨W.heap.size, 0, none⟩) 4 4) (hl : bs.length + 4 ≤ 140737488355328)
    (hK : ∀ A c W', Kd.R kU 5 W' V.heap.size (fun _ => True) (.slice A (bs.length + 4) c) (bs ++ [b0, b1, b2, b3]) → Below V.heap.size V W' → FrO none W W' → wpList Try.prog ops Q rest (a.put o.dst (.slice A (bs.length + 4) c)) W') :
    wpList Try.prog ops Q (o :: rest) a (W.alloc (.cells #[.int .u8 b0, .int .u8 b1, .int .u8 b2, .int .u8 b3] 5)) := by
  have hr : Kd.R kU 5 (W.alloc (.cells #[.int .u8 b0, .int .u8 b1, .int .u8 b2, .int .u8 b3] 5)) W.heap.size (fun _ => True) (.slice (some ⟨W.heap.size, 0, none⟩) 4 4) [b0, b1, b2, b3] := R_u8s W [b0, b1, b2, b3] _ _ (Nat.le_refl _) trivial (by simp)
  have hc : Kd.C kU (W.alloc (.cells #[.int .u8 b0, .int .u8 b1, .int .u8 b2, .int .u8 b3] 5)) (some ⟨W.heap.size, 0, none⟩) 4 [b0, b1, b2, b3] := by
    obtain ⟨A, c, e, -, hc⟩ := Kd.R_reads hr
    cases e
    exact hc
  rcases h with ⟨rfl, rfl, hL⟩ | h
  · obtain ⟨i0, hi, hzz⟩ := Option.map_eq_some_iff.1 infoU
    simp only [Prod.mk.injEq] at hzz
    obtain ⟨hz0, hz1, hz2⟩ := hzz
    have hL' := blk_alloc hL (Obj.cells #[.int .u8 b0, .int .u8 b1, .int .u8 b2, .int .u8 b3] 5)
    refine wpList_append_grows _ hgd s x 22 ho 5 i0 (.int .u8 0) 1 1 Try.underlying22 hi hz0 hz1 hz2 rfl (by omega) (some ⟨V.heap.size, 0, none⟩) 4 4 [.int .u8 82, .int .u8 79, .int .u8 84, .int .u8 65] hs (by simp) (by simp) (fun b hb j u hu => ?_)
      ⟨W.heap.size, 0, none⟩ 4 4 [.int .u8 b0, .int .u8 b1, .int .u8 b2, .int .u8 b3] hx rfl (by simpa using World.news_of_block (cs := #[.int .u8 b0, .int .u8 b1, .int .u8 b2, .int .u8 b3]) (heap_alloc_new W _)) (by simp [Value.oneCell']) (by omega) (by simp only [maxLen]; omega) (by omega) ?_
    · cases hb
      exact World.news_of_block (cs := #[.int .u8 82, .int .u8 79, .int .u8 84, .int .u8 65]) hL' j u (by simpa using hu)
    · intro v' w' hown hg
      have hown' := own_lower hown (base' := V.heap.size) (by rw [World.size_alloc]; have := hB.size; omega)
      have hR : Kd.R kU 5 w' V.heap.size (fun _ => True) v' [82, 79, 84, 65, b0, b1, b2, b3] := Kd.R_of_own (enc := Value.int .u8) (h1 := fun _ => rfl) (by simpa [encs] using hown') (fun _ _ => trivial)
      obtain ⟨A, c, rfl⟩ := Kd.R_slice hR
      refine hK A c w' hR ((hB.alloc hB.size _).grown hg (by rw [World.size_alloc]; have := hB.size; omega) (fun k e => by cases e)) ⟨?_, fun g cells t hb ht _ => blk_grown (blk_alloc hb (.cells #[.int .u8 b0, .int .u8 b1, .int .u8 b2, .int .u8 b3] 5)) hg (fun e => by cases e)⟩
      have := hg.size
      rw [World.size_alloc] at this
      omega
  · refine Kd.R_append_rows kU (Rr := kU.K (W.alloc (.cells #[.int .u8 b0, .int .u8 b1, .int .u8 b2, .int .u8 b3] 5))) (w0 := V) V.heap.size hgd s x 22 5 (.int .u8 0) 1 ho Try.underlying22 infoU rfl (by decide) (by omega) v bs [b0, b1, b2, b3] _ 4 4 (fun _ => True) (fun _ => False) hs hx (Kd.R_alloc h _) hc (fun x cs hk => hk) (fun _ hk => hk.elim) (fun _ _ => trivial) (hB.alloc hB.size _) (by rw [World.size_alloc]; have := hB.size; omega) (by omega) ?_
    intro v1 W1 hr1 hb1 hg1 _
    obtain ⟨A, c, hv⟩ := Kd.R_slice hr1
    rw [List.length_append] at hv
    subst hv
    refine hK A c W1 hr1 hb1 ⟨?_, fun g cells t hb ht _ => blk_grown (blk_alloc hb (.cells #[.int .u8 b0, .int .u8 b1, .int .u8 b2, .int .u8 b3] 5)) hg1 (Kd.R_ne (Kd.R_alloc h (.cells #[.int .u8 b0, .int .u8 b1, .int .u8 b2, .int .u8 b3] 5)) (blk_alloc hb (.cells #[.int .u8 b0, .int .u8 b1, .int .u8 b2, .int .u8 b3] 5)) ht)⟩
    have := hg1.size
    rw [World.size_alloc] at this
    omega
theorem inN_bd (n : Int) : inN n = true ↔ -2147483648 ≤ n ∧ n ≤ 2147483647 := by
  unfold inN
  rw [Bool.and_eq_true, decide_eq_true_eq, decide_eq_true_eq]
def putN (n : Int) : List Int := if inN n then encN n else []
set_option maxRecDepth 100000 in
set_option maxHeartbeats 16000000 in
theorem put_calls {V W : World} {v : Value} {bs : List Int} (n : Int) (h : ES V v bs W) (hB : Below V.heap.size V W) (hl : bs.length + 4 ≤ 140737488355328) :
    Calls Try.prog 60 #[v, .int .i64 n] W fun e W' => ∃ v', e = .returned (.tuple #[v', .bool (inN n)]) ∧ ES V v' (bs ++ putN n) W' ∧ Below V.heap.size V W' ∧ FrO none W W' := by
  obtain ⟨A0, c0, rfl⟩ := h.slice
  have HR := Lib.hid h
  have HB := Lib.hid hB
  have HL := Lib.hid hl
  clear h hB hl
  go_enter Try.func60, Try.ntmps60
  by_cases h1 : n < -2147483648
  · have e1 : inN n = false := by unfold inN; rw [decide_eq_false (by omega)]; rfl
    unfold putN
    rw [e1]
    go_wp2
    go_ret2
    exact ⟨_, rfl, by simpa using HR.out, HB.out, FrO.refl _ _⟩
  by_cases h2 : 2147483647 < n
  · have e1 : inN n = false := by unfold inN; rw [decide_eq_false (by omega : ¬ n ≤ 2147483647), Bool.and_false]
    unfold putN
    rw [e1]
    have e2 : decide (n < -2147483648) = false := decide_eq_false h1
    go_wp2
    go_ret2
    exact ⟨_, rfl, by simpa using HR.out, HB.out, FrO.refl _ _⟩
  have e1 : inN n = true := by rw [inN_bd]; omega
  have e2 : decide (n < -2147483648) = false := decide_eq_false h1
  have e3 : decide (2147483647 < n) = false := decide_eq_false h2
  unfold putN
  rw [e1]
  by_cases h3 : n < 0
  · have e4 : decide (n < 0) = true := decide_eq_true h3
    go_wp2_with (first | ((with_reducible refine gate_z (b := .append) (xs := #[.tmp 17, .tmp 32]) rfl ?_); at_builtin; refine u4_app HR.out HB.out _ _ _ _ (.tmp 17) (.tmp 32) rfl rfl rfl rfl HL.out ?_; intro A5 c5 W5 h5 hb5 hf5; have H5 := Lib.hid h5; have HB5 := Lib.hid hb5; have HF5 := Lib.hid hf5; clear h5 hb5 hf5))
    go_ret2
    have eN : [(n + 4294967296) / 16777216, (n + 4294967296) / 65536 % 256, (n + 4294967296) / 256 % 256, (n + 4294967296) % 256] = encN n := by
      unfold encN
      rw [show n % 4294967296 = n + 4294967296 by omega]
    rw [eN] at H5
    exact ⟨_, rfl, .inr H5.out, HB5.out, HF5.out⟩
  · have e4 : decide (n < 0) = false := decide_eq_false h3
    go_wp2_with (first | ((with_reducible refine gate_z (b := .append) (xs := #[.tmp 17, .tmp 32]) rfl ?_); at_builtin; refine u4_app HR.out HB.out _ _ _ _ (.tmp 17) (.tmp 32) rfl rfl rfl rfl HL.out ?_; intro A5 c5 W5 h5 hb5 hf5; have H5 := Lib.hid h5; have HB5 := Lib.hid hb5; have HF5 := Lib.hid hf5; clear h5 hb5 hf5))
    go_ret2
    have eN : [n / 16777216, n / 65536 % 256, n / 256 % 256, n % 256] = encN n := by
      unfold encN
      rw [show n % 4294967296 = n by omega]
    rw [eN] at H5
    exact ⟨_, rfl, .inr H5.out, HB5.out, HF5.out⟩
end Go.Proofs.Ytehbabkgaecoaaa
