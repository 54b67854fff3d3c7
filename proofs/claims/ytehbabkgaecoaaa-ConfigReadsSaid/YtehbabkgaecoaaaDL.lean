/- config.Decode: a list of numbers. -/
import Derived.Test.YtehbabkgaecoaaaDE
namespace Go.Proofs.Ytehbabkgaecoaaa
set_option linter.unusedVariables false
set_option linter.unusedSimpArgs false
open Go.RowKit Go.Shelf Go.Proofs.YtehbabkgaecoaaaW.PrintWords Go.Proofs.YtehbabkgaecoaaaW.PrintLast

/-- Two blocks are as they were. -/
structure Ks (W : World) (x y : Nat) (V : World) : Prop where
  bx : V.heap[x]? = W.heap[x]?
  by_ : V.heap[y]? = W.heap[y]?
/-- A cell of one of two blocks. -/
structure Kc (W : World) (x y : Nat) (p : Addr) (v : Value) : Prop where
  c : W.cell? p = some v
  a : p.block = x ∨ p.block = y
theorem Ks.cell {W V : World} {x y : Nat} {p : Addr} {v : Value} (h : Ks W x y V) (hc : Kc W x y p v) : V.cell? p = some v := by
  refine (World.cell?_of_block ?_).trans hc.c
  rcases hc.a with e | e
  · rw [e]; exact h.bx
  · rw [e]; exact h.by_
theorem Ks.to {W V U : World} {x y : Nat} (h : Ks W x y V) (hx : U.heap[x]? = V.heap[x]?) (hy : U.heap[y]? = V.heap[y]?) : Ks W x y U := ⟨hx.trans h.bx, hy.trans h.by_⟩
/-- A drawing region at a function's end: its frame is of no matter. -/
theorem region_e {P : Program} {ops : Array Oper} {Q : Exit → Act → World → Prop} {id N : Nat} {a : Act} {w : World} {S : World → Prop} {ds : List Nat} (R : World → Prop) (lst : Array Bool) (hS : S w.drew) (hm : P.follows .mixedOrders = true) (hN : ops.size = N) (hl : Array.replicate N false = lst)
    (h1 : wpAnyLast P .any ops (fun e a' w' => e = .normal ∧ a'.defers = [] ∧ R w') S ds N lst a w.drew)
    (h2 : ∀ a' w', a'.defers = [] → R w' → Q .normal a' w') : (Code.region id ops true).wp P Q a w := by
  refine wp_mono (Q := fun e a' w' => e = .normal ∧ a'.defers = [] ∧ R w') (start_ lst hm hN hl hS (fun _ => h1)) ?_
  rintro e a' w' ⟨rfl, hd, hr⟩
  exact h2 a' w' hd hr

/-- One number more. -/
def eachL (a r : List Int) (f : Bool) : List Int × List Int × Bool := (a ++ [(nextD r f).1], (nextD r f).2)
def listD (r : List Int) (f : Bool) : List Int × List Int × Bool := manyD eachL [] r f
/-- A list that grows in a variable of its own (block k0), all made behind it. -/
def InvL (w W0 : World) (k0 : Nat) (j : Nat) (a r : List Int) (f : Bool) (W : World) : Prop :=
  DSt w r f W ∧ a.length = j ∧ w.heap.size + 6 ≤ k0 ∧ (∃ v, W.heap[k0]? = some (Obj.cells #[v] 23 (0, 0)) ∧ Kd.R kI 3 W k0 (fun k => k0 < k) v a) ∧ ∀ i, i < k0 → i ≠ w.heap.size + 2 → i ≠ w.heap.size + 1 → W.heap[i]? = W0.heap[i]?
set_option maxRecDepth 100000 in
set_option maxHeartbeats 16000000 in
theorem eachL_calls (w W0 : World) (k0 j : Nat) (a r : List Int) (W : World) (hj : j < 65535) (h : InvL w W0 k0 j a r true W) :
    Calls Try.prog 39 #[.pointer (some ⟨k0, 0, none⟩), .pointer (some ⟨w.heap.size + 3, 0, none⟩)] W fun e W' => e = .returned (.tuple #[]) ∧ InvL w W0 k0 (j + 1) (eachL a r true).1 (eachL a r true).2.1 (eachL a r true).2.2 W' := by
  obtain ⟨hd, hlen, hk0, ⟨v, hv, hr⟩, hkp⟩ := h
  have p0 : Kc W k0 (w.heap.size + 3) ⟨k0, 0, none⟩ v := ⟨blk_cell hv 0, Or.inl rfl⟩
  have p1 : Kc W k0 (w.heap.size + 3) ⟨w.heap.size + 3, 0, none⟩ (Value.func (.func 36) #[] #[.pointer (some ⟨w.heap.size + 2, 0, none⟩), .pointer (some ⟨w.heap.size + 1, 0, none⟩)]) := ⟨blk_cell hd.N 0, Or.inr rfl⟩
  have hbd : Below W.heap.size W W.drew := (Below.refl _ _).drew
  have hS : Ks W k0 (w.heap.size + 3) W.drew := ⟨rfl, rfl⟩
  have hdD := hd.below hbd
  have hrD := Kd.R_below hr hbd
  have hvD := blk_keep hbd hv
  have hkD : ∀ i, i < k0 → i ≠ w.heap.size + 2 → i ≠ w.heap.size + 1 → W.drew.heap[i]? = W0.heap[i]? := hkp
  go_enter Try.func39, Try.ntmps39
  refine region_e (S := Ks W k0 (w.heap.size + 3)) (ds := [4, 5]) (N := 6) (fun W' => InvL w W0 k0 (j + 1) (eachL a r true).1 (eachL a r true).2.1 (eachL a r true).2.2 W') #[false, false, false, false, false, false] hS (by kernel_rfl) rfl rfl ?_ ?_
  · clear hbd hd hv hr hkp
    generalize W.drew = Wd at hS hdD hrD hvD hkD ⊢
    refine take_ (i := 0) (N := some 2) (v := ?_) (a' := ?_) #[true, false, false, false, false, false] rfl rfl (by kernel_rfl) (fun _ _ _ h => by cases h.1) (Or.inl ⟨by rfl, ?_⟩) hS ?_ ?_
    rotate_left
    · intro w' hb
      have s0 := hb.cell p0
      go_simp
      with_reducible rfl
    rotate_left
    · simp only [Act.put, List.setIfInBounds_toArray, List.set_cons_zero, List.set_cons_succ]
      rfl
    refine take_ (i := 1) (N := some 3) (v := ?_) (a' := ?_) #[true, true, false, false, false, false] rfl rfl (by kernel_rfl) (fun _ _ _ h => by cases h.1) (Or.inl ⟨by rfl, ?_⟩) hS ?_ ?_
    rotate_left
    · intro w' hb
      have s0 := hb.cell p1
      go_simp
      with_reducible rfl
    rotate_left
    · simp only [Act.put, List.setIfInBounds_toArray, List.set_cons_zero, List.set_cons_succ]
      rfl
    refine one_ (i := 2) (N := some 4) #[true, true, true, false, false, false] rfl rfl (by kernel_rfl) (by simp) (fun K hK => ?_)
    go_simp
    refine (DSt.next hdD).mono ?_
    rintro e u1 ⟨rfl, hd1, hk1⟩
    have hv1 := hk1.blk hvD (by omega) (by omega)
    have hS1 : Ks W k0 (w.heap.size + 3) u1 := hS.to (hv1.trans hvD.symm) (hd1.N.trans hdD.N.symm)
    refine hK.out _ _ hS1 (fun _ => ?_)
    clear hK K
    refine one_ (i := 3) (N := some 5) #[true, true, true, true, false, false] rfl rfl (by kernel_rfl) (by simp) (fun K hK => ?_)
    go_simp
    refine hK.out _ _ (hS1.to ?_ ?_) (fun _ => ?_)
    · exact ((Below.refl u1.heap.size u1).alloc (Nat.le_refl _) _).block _ (blk_lt hv1)
    · exact ((Below.refl u1.heap.size u1).alloc (Nat.le_refl _) _).block _ (blk_lt hd1.N)
    clear hK K
    refine last_ (i := 4) (N := some 6) #[true, true, true, true, true, false] rfl rfl (by kernel_rfl) (by simp) (fun K hK => ?_)
    have hr1 : Kd.R kI 3 u1 k0 (fun k => k0 < k) v a := Kd.R_step hrD (fun k hk hl => hk1.2 k hl (by omega) (by omega) (by simp))
    refine Kd.R_append_step kI (w0 := u1) k0 (by rfl) (.tmp 2) (.tmp 5) 23 3 (.int .i64 0) 8 rfl Try.underlying23 info3 rfl (by decide) (by omega) v a (nextD r true).1 [.int .i64 (nextD r true).1] (fun k => k0 < k) (fun _ => False) rfl rfl rfl (fun _ hk => hk.elim) (fun k hk => Nat.lt_of_lt_of_le (blk_lt hv1) hk) hr1 (Below.refl _ _) (Nat.le_of_lt (blk_lt hv1)) (by omega) ?_
    intro v' w5 ho hbw hg hat
    obtain ⟨A5, k5, hv5e⟩ := Kd.R_slice ho
    subst hv5e
    rw [show (a ++ [(nextD r true).1]).length = j + 1 by simp [hlen]] at ho
    refine hK.out _ _ ?_
    clear hK K
    have hv5 := blk_grown hv1 hg (Kd.R_ne hr1 hv1 (by decide))
    have hd5 : DSt w (nextD r true).2.1 (nextD r true).2.2 w5 := hd1.keep (fun i hi => hg.block i (by have := hd1.size; omega) (fun he => by have := hr1.1 i he.symm; omega)) (hd1.B.trans (hbw.mono (by omega)))
    have c5 := blk_cell hv5 0
    have f5 := blk_frozen hv5 0
    refine last_ (i := 5) (N := none) #[true, true, true, true, true, true] rfl rfl (by kernel_rfl) (by simp) (fun K hK => ?_)
    go_simp
    refine hK.out _ _ ?_
    refine done_ (by kernel_rfl) ?_
    refine ⟨rfl, rfl, hd5.set hk0 _, by rw [show (eachL a r true).1 = a ++ [(nextD r true).1] from rfl, List.length_append, hlen]; rfl, hk0, ⟨_, blk_set hv5 0 _, Kd.R_far ho (p := ⟨k0, 0, none⟩) (fun k hk he => by have he' : k = k0 := he; omega) _⟩, fun i hi h1 h2 => ?_⟩
    rw [Below.heap_setCell w5 ⟨k0, 0, none⟩ _ i (by show i ≠ k0; omega), hg.block i (by have := blk_lt hv1; omega) (fun he => by have := hr1.1 i he.symm; omega), hk1.2 i (by have := blk_lt hvD; omega) h1 h2 (by simp)]
    exact hkD i hi h1 h2
  · intro a' w' hda hi
    exact bodyPost_end (results_none rfl _ _ _) hda ⟨rfl, hi⟩
theorem InvL.init {w W : World} {r : List Int} {f : Bool} (h : DSt w r f W) : InvL w W W.heap.size 0 [] r f (W.alloc (Obj.cells #[.slice none 0 0] 23 (0, 0))) :=
  ⟨h.below ((Below.refl _ _).alloc (Nat.le_refl _) _), rfl, h.size, ⟨_, blk_new W _, Kd.R_nil _ _ _ _ _⟩, fun i hi _ _ => ((Below.refl W.heap.size W).alloc (Nat.le_refl _) _).block i hi⟩
theorem InvL.next {w W0 W W' : World} {k0 j : Nat} {a r r' : List Int} {f f' : Bool} (h : InvL w W0 k0 j a r f W) (hd : DSt w r' f' W') (hk : KpD w W W') : InvL w W0 k0 j a r' f' W' := by
  obtain ⟨h1, h2, h3, ⟨v, hv, hr⟩, h5⟩ := h
  refine ⟨hd, h2, h3, ⟨v, hk.blk hv (by omega) (by omega), Kd.R_step hr (fun k ho hl => hk.2 k hl (by omega) (by omega) (by simp))⟩, fun i hi h6 h7 => ?_⟩
  exact (hk.2 i (by have := blk_lt hv; omega) h6 h7 (by simp)).trans (h5 i hi h6 h7)
set_option maxRecDepth 100000 in
set_option maxHeartbeats 16000000 in
theorem list_calls' {w W : World} {r : List Int} {f : Bool} (h : DSt w r f W) :
    Calls Try.prog 38 #[.pointer (some ⟨w.heap.size + 4, 0, none⟩), .pointer (some ⟨w.heap.size + 3, 0, none⟩)] W fun e W' => ∃ v, e = .returned v ∧ DSt w (listD r f).2.1 (listD r f).2.2 W' ∧ Kd.R kI 3 W' W.heap.size (fun k => W.heap.size < k) v (listD r f).1 ∧ (listD r f).1.length ≤ 65535 ∧ KpD w W W' := by
  have HI := Lib.hid (InvL.init h)
  have HK := Lib.hid h
  have m0 := blk_cell ((InvL.init h).1.M) 0
  have hmf : ∀ (fn : Fn) (first cap : Array Value) (w : World), (Instr.makeFunc fn first cap).run Try.prog w = .ok (.func fn first cap) w := fun _ _ _ _ => rfl
  clear h
  go_enter Try.func38, Try.ntmps38
  go_wp2_with fail
  refine (many_calls w 39 #[.pointer (some ⟨W.heap.size, 0, none⟩), .pointer (some ⟨w.heap.size + 3, 0, none⟩)] eachL (InvL w W W.heap.size) (fun _ => rfl) (fun j a r f V h => h.1) ?_ (fun j a r V hj h => eachL_calls w W W.heap.size j a r V hj h) [] r f _ HI.out).mono ?_
  · exact fun j a r f V h r' f' V' hd hk => h.next hd hk
  rintro e W2 ⟨rfl, j, hj, h2, h3, h4, ⟨v, hv, hr⟩, h5⟩
  obtain ⟨A, c, rfl⟩ := Kd.R_slice hr
  have H2 := Lib.hid h2
  have HV := Lib.hid hv
  have HRW := Lib.hid hr
  have H5 := Lib.hid h5
  have HJ := Lib.hid (show (listD r f).1.length ≤ 65535 by have : (listD r f).1.length = j := h3; omega)
  have v0 := blk_cell hv 0
  have v1 := blk_frozen hv 0
  clear h2 h3 h4 hv hr h5 hj m0
  go_wp2_with fail
  have HC := Lib.hid (blk_cell (blk_set HV.out 0 (.slice A (manyD eachL [] r f).1.length c)) 0)
  have hc' : (W2.setCell ⟨W.heap.size, 0, none⟩ (.slice A (manyD eachL [] r f).1.length c)).cell? ⟨W.heap.size, 0, none⟩ = some (.slice A (manyD eachL [] r f).1.length c) := HC.out
  refine bodyPost_ret (v := .slice A (manyD eachL [] r f).1.length c) (by simp [results, Try.f38, go_sem, hc']) rfl ?_
  refine ⟨_, rfl, H2.out.set (by have := HK.out.size; exact this) _, Kd.R_far HRW.out (p := ⟨W.heap.size, 0, none⟩) (fun k hk he => by have he' : k = W.heap.size := he; omega) _, HJ.out, ?_, fun i hi h6 h7 _ => ?_⟩
  · rw [World.size_setCell]; exact Nat.le_of_lt (blk_lt HV.out)
  · exact (Below.heap_setCell W2 ⟨W.heap.size, 0, none⟩ _ i (by show i ≠ W.heap.size; omega)).trans (H5.out i hi h6 h7)
end Go.Proofs.Ytehbabkgaecoaaa
