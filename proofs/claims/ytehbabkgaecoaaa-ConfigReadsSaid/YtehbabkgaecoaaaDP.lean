/- config.Decode: partitions, windows, ports and links, each appended to the configuration's own list. -/
import Derived.Test.YtehbabkgaecoaaaDL
namespace Go.Proofs.Ytehbabkgaecoaaa
set_option linter.unusedVariables false
set_option linter.unusedSimpArgs false
open Go.RowKit Go.Shelf Go.Proofs.YtehbabkgaecoaaaW.PrintWords Go.Proofs.YtehbabkgaecoaaaW.PrintLast

/-- Some blocks are as they were. -/
structure Kb (W : World) (bs : List Nat) (V : World) : Prop where
  sz : W.heap.size ≤ V.heap.size
  bl : ∀ b ∈ bs, V.heap[b]? = W.heap[b]?
structure Kcb (W : World) (bs : List Nat) (p : Addr) (v : Value) : Prop where
  c : W.cell? p = some v
  a : p.block ∈ bs
theorem Kb.cell {W V : World} {bs : List Nat} {p : Addr} {v : Value} (h : Kb W bs V) (hc : Kcb W bs p v) : V.cell? p = some v := (World.cell?_of_block (h.bl _ hc.a)).trans hc.c
theorem Kb.next {w W V U : World} {bs : List Nat} (h : Kb W bs V) (hbs : ∀ b ∈ bs, w.heap.size + 3 ≤ b ∧ b < W.heap.size) (hk : KpD w V U) : Kb W bs U :=
  ⟨Nat.le_trans h.sz hk.1, fun b hb => (hk.2 b (Nat.lt_of_lt_of_le (hbs b hb).2 h.sz) (by have := (hbs b hb).1; omega) (by have := (hbs b hb).1; omega) (by simp)).trans (h.bl b hb)⟩
theorem Kb.alloc {w W V : World} {bs : List Nat} (h : Kb W bs V) (hbs : ∀ b ∈ bs, w.heap.size + 3 ≤ b ∧ b < W.heap.size) (o : Obj) : Kb W bs (V.alloc o) :=
  h.next hbs (KpD.below (w := w) ((Below.refl _ _).alloc (Nat.le_refl _) o))
/-- One list of the configuration grows (the block behind the six variables); all of it is made behind W0. -/
def InvC {α : Type} (d : Kd α) (e x : Nat) (B : Array Value) (w W0 : World) (j : Nat) (a : List α) (r : List Int) (f : Bool) (W : World) : Prop :=
  DSt w r f W ∧ a.length = j ∧ w.heap.size + 7 ≤ W0.heap.size ∧ W0.heap.size ≤ W.heap.size ∧ (∃ v, W.heap[w.heap.size + 6]? = some (Obj.cells (B.setIfInBounds x v) 29 (0, 0)) ∧ Kd.R d e W W0.heap.size (fun _ => True) v a) ∧ ∀ i, i < W0.heap.size → i ≠ w.heap.size + 2 → i ≠ w.heap.size + 1 → i ≠ w.heap.size + 6 → W.heap[i]? = W0.heap[i]?
theorem InvC.next {α : Type} {d : Kd α} {e x : Nat} {B : Array Value} {w W0 W W' : World} {j : Nat} {a : List α} {r r' : List Int} {f f' : Bool} (h : InvC d e x B w W0 j a r f W) (hd : DSt w r' f' W') (hk : KpD w W W') : InvC d e x B w W0 j a r' f' W' := by
  obtain ⟨h1, h2, h3, h4, ⟨v, hv, hr⟩, h5⟩ := h
  refine ⟨hd, h2, h3, Nat.le_trans h4 hk.1, ⟨v, hk.blk hv (by omega) (by omega), Kd.R_step (Kd.R_bound hr) (fun k ho hl => hk.2 k hl (by omega) (by omega) (by simp)) |> fun q => Kd.R_mono q (fun _ _ => trivial)⟩, fun i hi h6 h7 h8 => ?_⟩
  exact (hk.2 i (by omega) h6 h7 (by simp)).trans (h5 i hi h6 h7 h8)
theorem InvC.app {α : Type} {d : Kd α} {e x : Nat} {B : Array Value} {w W0 W u V : World} {j : Nat} {a a' : List α} {r' : List Int} {f' : Bool} {v v' : Value} (hx : x < B.size) (h3 : w.heap.size + 7 ≤ W0.heap.size) (h4 : W0.heap.size ≤ W.heap.size)
    (h5 : ∀ i, i < W0.heap.size → i ≠ w.heap.size + 2 → i ≠ w.heap.size + 1 → i ≠ w.heap.size + 6 → W.heap[i]? = W0.heap[i]?) (hk : KpD w W u) (hd : DSt w r' f' u) (hr : Kd.R d e u W0.heap.size (fun _ => True) v a) (hv : u.heap[w.heap.size + 6]? = some (Obj.cells (B.setIfInBounds x v) 29 (0, 0)))
    (ho : Kd.R d e V W0.heap.size (fun _ => True) v' a') (hbw : Below W0.heap.size u V) (hg : u.grownBy V v.ownBlock) (hl : a'.length = j + 1) :
    InvC d e x B w W0 (j + 1) a' r' f' (V.setCell ⟨w.heap.size + 6, x, none⟩ v') := by
  have hown : ∀ k, v.ownBlock = some k → W0.heap.size ≤ k := fun k he => Kd.R_base hr k he
  have hv5 : V.heap[w.heap.size + 6]? = some (Obj.cells (B.setIfInBounds x v) 29 (0, 0)) := (hbw.block _ (by omega)).trans hv
  have hd5 : DSt w r' f' V := hd.keep (fun i hi => hbw.block i (by omega)) (hd.B.trans (hbw.mono (by omega)))
  refine ⟨hd5.set (by simp) _, hl, h3, ?_, ⟨v', ?_, ?_⟩, fun i hi h6 h7 h8 => ?_⟩
  · rw [World.size_setCell]; exact Nat.le_trans h4 (Nat.le_trans hk.1 hg.size)
  · have := blk_set hv5 x v'
    rw [show (B.setIfInBounds x v).setIfInBounds x v' = B.setIfInBounds x v' by simp] at this
    exact this
  · exact Kd.R_mono (Kd.R_far (Kd.R_bound ho) (p := ⟨w.heap.size + 6, x, none⟩) (fun k hk he => by have he' : k = w.heap.size + 6 := he; omega) _) (fun _ _ => trivial)
  · rw [Below.heap_setCell V ⟨w.heap.size + 6, x, none⟩ _ i h8, hbw.block i hi, hk.2 i (by omega) h6 h7 (by simp)]
    exact h5 i hi h6 h7 h8

def eachP (a : List (S57)) (r : List Int) (f : Bool) : List (S57) × List Int × Bool :=
  let n1 := nextD r f; let n2 := nextD n1.2.1 n1.2.2; let n3 := nextD n2.2.1 n2.2.2
  (a ++ [⟨n1.1, n2.1, n3.1⟩], n3.2)
set_option maxRecDepth 100000 in
set_option maxHeartbeats 16000000 in
theorem eachP_calls (w W0 : World) (B : Array Value) (hB : B.size = 12) (j : Nat) (a : List (S57)) (r : List Int) (W : World) (hj : j < 65535) (h : InvC k57 57 8 B w W0 j a r true W) :
    Calls Try.prog 40 #[.pointer (some ⟨w.heap.size + 6, 0, none⟩), .pointer (some ⟨w.heap.size + 3, 0, none⟩)] W fun e W' => e = .returned (.tuple #[]) ∧ InvC k57 57 8 B w W0 (j + 1) (eachP a r true).1 (eachP a r true).2.1 (eachP a r true).2.2 W' := by
  obtain ⟨hd, hlen, hk0, hk0', ⟨v, hv, hr⟩, hkp⟩ := h
  obtain ⟨bs, hbse⟩ : ∃ bs, bs = [w.heap.size + 6, w.heap.size + 3] := ⟨_, rfl⟩
  have hbs : ∀ b ∈ bs, w.heap.size + 3 ≤ b ∧ b < W.heap.size := by
    intro b hb; rw [hbse] at hb; simp at hb; omega
  have p0 : Kcb W bs ⟨w.heap.size + 6, 8, none⟩ v := ⟨by rw [blk_cell hv 8]; simp [hB], by rw [hbse]; simp⟩
  have p1 : Kcb W bs ⟨w.heap.size + 3, 0, none⟩ (Value.func (.func 36) #[] #[.pointer (some ⟨w.heap.size + 2, 0, none⟩), .pointer (some ⟨w.heap.size + 1, 0, none⟩)]) := ⟨blk_cell hd.N 0, by rw [hbse]; simp⟩
  have hbd : Below W.heap.size W W.drew := (Below.refl _ _).drew
  have hS : Kb W bs W.drew := ⟨Nat.le_refl _, fun _ _ => rfl⟩
  have hd0 := hd.below hbd
  have hkk0 : KpD w W W.drew := KpD.below hbd
  go_enter Try.func40, Try.ntmps40
  refine region_e (S := Kb W bs) (ds := [10, 12]) (N := 13) (fun W' => InvC k57 57 8 B w W0 (j + 1) (eachP a r true).1 (eachP a r true).2.1 (eachP a r true).2.2 W') #[false, false, false, false, false, false, false, false, false, false, false, false, false] hS (by kernel_rfl) rfl rfl ?_ ?_
  case' refine_2 => exact fun a' w' hda hi => bodyPost_end (results_none rfl _ _ _) hda ⟨rfl, hi⟩
  generalize W.drew = u0 at hS hd0 hkk0 ⊢
  have hS0 := hS
  refine pure_ (i := 0) (N := some 2) (v := ?_) (a' := ?_) #[true, false, false, false, false, false, false, false, false, false, false, false, false] rfl rfl (by kernel_rfl) (fun _ _ _ h => by cases h.1) (Or.inl ⟨by rfl, ?_⟩) ?_ ?_
  rotate_left
  · intro w'
    go_simp
    with_reducible rfl
  rotate_left
  · simp only [Act.put, List.setIfInBounds_toArray, List.set_cons_zero, List.set_cons_succ]
    rfl
  refine take_ (i := 1) (N := some 3) (v := ?_) (a' := ?_) #[true, true, false, false, false, false, false, false, false, false, false, false, false] rfl rfl (by kernel_rfl) (fun _ _ _ h => by cases h.1) (Or.inl ⟨by rfl, ?_⟩) hS ?_ ?_
  rotate_left
  · intro w' hb
    have s0 := hb.cell p0
    go_simp
    with_reducible rfl
  rotate_left
  · simp only [Act.put, List.setIfInBounds_toArray, List.set_cons_zero, List.set_cons_succ]
    rfl
  refine take_ (i := 2) (N := some 4) (v := ?_) (a' := ?_) #[true, true, true, false, false, false, false, false, false, false, false, false, false] rfl rfl (by kernel_rfl) (fun _ _ _ h => by cases h.1) (Or.inl ⟨by rfl, ?_⟩) hS ?_ ?_
  rotate_left
  · intro w' hb
    have s0 := hb.cell p1
    go_simp
    with_reducible rfl
  rotate_left
  · simp only [Act.put, List.setIfInBounds_toArray, List.set_cons_zero, List.set_cons_succ]
    rfl
  refine take_ (i := 4) (N := some 6) (v := ?_) (a' := ?_) #[true, true, true, false, true, false, false, false, false, false, false, false, false] rfl rfl (by kernel_rfl) (fun _ _ _ h => by cases h.1) (Or.inl ⟨by rfl, ?_⟩) hS ?_ ?_
  rotate_left
  · intro w' hb
    have s0 := hb.cell p1
    go_simp
    with_reducible rfl
  rotate_left
  · simp only [Act.put, List.setIfInBounds_toArray, List.set_cons_zero, List.set_cons_succ]
    rfl
  refine take_ (i := 6) (N := some 8) (v := ?_) (a' := ?_) #[true, true, true, false, true, false, true, false, false, false, false, false, false] rfl rfl (by kernel_rfl) (fun _ _ _ h => by cases h.1) (Or.inl ⟨by rfl, ?_⟩) hS ?_ ?_
  rotate_left
  · intro w' hb
    have s0 := hb.cell p1
    go_simp
    with_reducible rfl
  rotate_left
  · simp only [Act.put, List.setIfInBounds_toArray, List.set_cons_zero, List.set_cons_succ]
    rfl
  refine one_ (i := 3) (N := some 5) #[true, true, true, true, true, false, true, false, false, false, false, false, false] rfl rfl (by kernel_rfl) (by simp) (fun K hK => ?_)
  go_simp
  refine (DSt.next hd0).mono ?_
  rintro e u1 ⟨rfl, hd1, hk1⟩
  have hS1 := hS0.next hbs hk1
  have hkk1 := hkk0.trans hk1
  refine hK.out _ _ hS1 (fun _ => ?_)
  clear hK K
  refine one_ (i := 5) (N := some 7) #[true, true, true, true, true, true, true, false, false, false, false, false, false] rfl rfl (by kernel_rfl) (by simp) (fun K hK => ?_)
  go_simp
  refine (DSt.next hd1).mono ?_
  rintro e u2 ⟨rfl, hd2, hk2⟩
  have hS2 := hS1.next hbs hk2
  have hkk2 := hkk1.trans hk2
  refine hK.out _ _ hS2 (fun _ => ?_)
  clear hK K
  refine one_ (i := 7) (N := some 9) #[true, true, true, true, true, true, true, true, false, false, false, false, false] rfl rfl (by kernel_rfl) (by simp) (fun K hK => ?_)
  go_simp
  refine (DSt.next hd2).mono ?_
  rintro e u3 ⟨rfl, hd3, hk3⟩
  have hS3 := hS2.next hbs hk3
  have hkk3 := hkk2.trans hk3
  refine hK.out _ _ hS3 (fun _ => ?_)
  clear hK K
  refine pure_ (i := 8) (N := some 10) (v := ?_) (a' := ?_) #[true, true, true, true, true, true, true, true, true, false, false, false, false] rfl rfl (by kernel_rfl) (fun _ _ _ h => by cases h.1) (Or.inl ⟨by rfl, ?_⟩) ?_ ?_
  rotate_left
  · intro w'
    go_simp
    with_reducible rfl
  rotate_left
  · simp only [Act.put, List.setIfInBounds_toArray, List.set_cons_zero, List.set_cons_succ]
    rfl
  refine one_ (i := 9) (N := some 11) #[true, true, true, true, true, true, true, true, true, true, false, false, false] rfl rfl (by kernel_rfl) (by simp) (fun K hK => ?_)
  go_simp
  refine hK.out _ _ (hS3.alloc hbs _) (fun _ => ?_)
  clear hK K
  refine last_ (i := 10) (N := some 12) #[true, true, true, true, true, true, true, true, true, true, true, false, false] rfl rfl (by kernel_rfl) (by simp) (fun K hK => ?_)
  have hvm := hkk3.blk hv (by omega) (by omega)
  have hrm : Kd.R (k57) 57 u3 W0.heap.size (fun _ => True) v a := Kd.R_mono (Kd.R_step (Kd.R_bound hr) (fun k ho hl => hkk3.2 k hl (by omega) (by omega) (by simp))) (fun _ _ => trivial)
  refine Kd.R_append_step (k57) (w0 := u3) W0.heap.size (by rfl) (.tmp 3) (.tmp 11) 24 57 (.agg #[.int .i64 0, .int .i64 0, .int .i64 0]) 24 rfl Try.underlying24 info57 rfl (by decide) (by omega) v a ⟨_, _, _⟩ [.int .i64 _, .int .i64 _, .int .i64 _] (fun _ => True) (fun _ => False) rfl rfl (k57_mkM _ _ _ _) (fun _ hk => hk.elim) (fun _ _ => trivial) hrm (Below.refl _ _) (Nat.le_trans hk0' hkk3.1) (by omega) ?_
  intro v' w5 ho hbw hg hat
  have happ : InvC (k57) 57 8 B w W0 (j + 1) (eachP a r true).1 (eachP a r true).2.1 (eachP a r true).2.2 (w5.setCell ⟨w.heap.size + 6, 8, none⟩ v') := InvC.app (by omega) hk0 hk0' hkp hkk3 hd3 hrm hvm ho hbw hg (by show (a ++ [(_ : S57)]).length = _; rw [List.length_append, hlen]; rfl)
  obtain ⟨A5, k5, hv5e⟩ := Kd.R_slice ho
  subst hv5e
  refine hK.out _ _ ?_
  clear hK K
  refine pure_ (i := 11) (N := some 13) (v := ?_) (a' := ?_) #[true, true, true, true, true, true, true, true, true, true, true, true, false] rfl rfl (by kernel_rfl) (fun _ _ _ h => by cases h.1) (Or.inl ⟨by rfl, ?_⟩) ?_ ?_
  rotate_left
  · intro w'
    go_simp
    with_reducible rfl
  rotate_left
  · simp only [Act.put, List.setIfInBounds_toArray, List.set_cons_zero, List.set_cons_succ]
    rfl
  have hv5 := (hbw.block _ (by omega)).trans hvm
  have c5 := blk_cell hv5 8
  have f5 := blk_frozen hv5 8
  refine last_ (i := 12) (N := none) #[true, true, true, true, true, true, true, true, true, true, true, true, true] rfl rfl (by kernel_rfl) (by simp) (fun K hK => ?_)
  go_simp
  refine hK.out _ _ ?_
  refine done_ (by kernel_rfl) ?_
  rw [List.length_append, hlen] at happ
  exact ⟨rfl, rfl, happ⟩
def eachQ (a : List (S59)) (r : List Int) (f : Bool) : List (S59) × List Int × Bool :=
  let n1 := nextD r f; let n2 := nextD n1.2.1 n1.2.2; let n3 := nextD n2.2.1 n2.2.2; let n4 := nextD n3.2.1 n3.2.2; let n5 := nextD n4.2.1 n4.2.2; let n6 := nextD n5.2.1 n5.2.2
  (a ++ [⟨n1.1, n2.1, n3.1, n4.1, n5.1, n6.1⟩], n6.2)
set_option maxRecDepth 100000 in
set_option maxHeartbeats 16000000 in
theorem eachQ_calls (w W0 : World) (B : Array Value) (hB : B.size = 12) (j : Nat) (a : List (S59)) (r : List Int) (W : World) (hj : j < 65535) (h : InvC k59 59 10 B w W0 j a r true W) :
    Calls Try.prog 42 #[.pointer (some ⟨w.heap.size + 6, 0, none⟩), .pointer (some ⟨w.heap.size + 3, 0, none⟩)] W fun e W' => e = .returned (.tuple #[]) ∧ InvC k59 59 10 B w W0 (j + 1) (eachQ a r true).1 (eachQ a r true).2.1 (eachQ a r true).2.2 W' := by
  obtain ⟨hd, hlen, hk0, hk0', ⟨v, hv, hr⟩, hkp⟩ := h
  obtain ⟨bs, hbse⟩ : ∃ bs, bs = [w.heap.size + 6, w.heap.size + 3] := ⟨_, rfl⟩
  have hbs : ∀ b ∈ bs, w.heap.size + 3 ≤ b ∧ b < W.heap.size := by
    intro b hb; rw [hbse] at hb; simp at hb; omega
  have p0 : Kcb W bs ⟨w.heap.size + 6, 10, none⟩ v := ⟨by rw [blk_cell hv 10]; simp [hB], by rw [hbse]; simp⟩
  have p1 : Kcb W bs ⟨w.heap.size + 3, 0, none⟩ (Value.func (.func 36) #[] #[.pointer (some ⟨w.heap.size + 2, 0, none⟩), .pointer (some ⟨w.heap.size + 1, 0, none⟩)]) := ⟨blk_cell hd.N 0, by rw [hbse]; simp⟩
  have hbd : Below W.heap.size W W.drew := (Below.refl _ _).drew
  have hS : Kb W bs W.drew := ⟨Nat.le_refl _, fun _ _ => rfl⟩
  have hd0 := hd.below hbd
  have hkk0 : KpD w W W.drew := KpD.below hbd
  go_enter Try.func42, Try.ntmps42
  refine region_e (S := Kb W bs) (ds := [16, 18]) (N := 19) (fun W' => InvC k59 59 10 B w W0 (j + 1) (eachQ a r true).1 (eachQ a r true).2.1 (eachQ a r true).2.2 W') #[false, false, false, false, false, false, false, false, false, false, false, false, false, false, false, false, false, false, false] hS (by kernel_rfl) rfl rfl ?_ ?_
  case' refine_2 => exact fun a' w' hda hi => bodyPost_end (results_none rfl _ _ _) hda ⟨rfl, hi⟩
  generalize W.drew = u0 at hS hd0 hkk0 ⊢
  have hS0 := hS
  refine pure_ (i := 0) (N := some 2) (v := ?_) (a' := ?_) #[true, false, false, false, false, false, false, false, false, false, false, false, false, false, false, false, false, false, false] rfl rfl (by kernel_rfl) (fun _ _ _ h => by cases h.1) (Or.inl ⟨by rfl, ?_⟩) ?_ ?_
  rotate_left
  · intro w'
    go_simp
    with_reducible rfl
  rotate_left
  · simp only [Act.put, List.setIfInBounds_toArray, List.set_cons_zero, List.set_cons_succ]
    rfl
  refine take_ (i := 1) (N := some 3) (v := ?_) (a' := ?_) #[true, true, false, false, false, false, false, false, false, false, false, false, false, false, false, false, false, false, false] rfl rfl (by kernel_rfl) (fun _ _ _ h => by cases h.1) (Or.inl ⟨by rfl, ?_⟩) hS ?_ ?_
  rotate_left
  · intro w' hb
    have s0 := hb.cell p0
    go_simp
    with_reducible rfl
  rotate_left
  · simp only [Act.put, List.setIfInBounds_toArray, List.set_cons_zero, List.set_cons_succ]
    rfl
  refine take_ (i := 2) (N := some 4) (v := ?_) (a' := ?_) #[true, true, true, false, false, false, false, false, false, false, false, false, false, false, false, false, false, false, false] rfl rfl (by kernel_rfl) (fun _ _ _ h => by cases h.1) (Or.inl ⟨by rfl, ?_⟩) hS ?_ ?_
  rotate_left
  · intro w' hb
    have s0 := hb.cell p1
    go_simp
    with_reducible rfl
  rotate_left
  · simp only [Act.put, List.setIfInBounds_toArray, List.set_cons_zero, List.set_cons_succ]
    rfl
  refine take_ (i := 4) (N := some 6) (v := ?_) (a' := ?_) #[true, true, true, false, true, false, false, false, false, false, false, false, false, false, false, false, false, false, false] rfl rfl (by kernel_rfl) (fun _ _ _ h => by cases h.1) (Or.inl ⟨by rfl, ?_⟩) hS ?_ ?_
  rotate_left
  · intro w' hb
    have s0 := hb.cell p1
    go_simp
    with_reducible rfl
  rotate_left
  · simp only [Act.put, List.setIfInBounds_toArray, List.set_cons_zero, List.set_cons_succ]
    rfl
  refine take_ (i := 6) (N := some 8) (v := ?_) (a' := ?_) #[true, true, true, false, true, false, true, false, false, false, false, false, false, false, false, false, false, false, false] rfl rfl (by kernel_rfl) (fun _ _ _ h => by cases h.1) (Or.inl ⟨by rfl, ?_⟩) hS ?_ ?_
  rotate_left
  · intro w' hb
    have s0 := hb.cell p1
    go_simp
    with_reducible rfl
  rotate_left
  · simp only [Act.put, List.setIfInBounds_toArray, List.set_cons_zero, List.set_cons_succ]
    rfl
  refine take_ (i := 8) (N := some 10) (v := ?_) (a' := ?_) #[true, true, true, false, true, false, true, false, true, false, false, false, false, false, false, false, false, false, false] rfl rfl (by kernel_rfl) (fun _ _ _ h => by cases h.1) (Or.inl ⟨by rfl, ?_⟩) hS ?_ ?_
  rotate_left
  · intro w' hb
    have s0 := hb.cell p1
    go_simp
    with_reducible rfl
  rotate_left
  · simp only [Act.put, List.setIfInBounds_toArray, List.set_cons_zero, List.set_cons_succ]
    rfl
  refine take_ (i := 10) (N := some 12) (v := ?_) (a' := ?_) #[true, true, true, false, true, false, true, false, true, false, true, false, false, false, false, false, false, false, false] rfl rfl (by kernel_rfl) (fun _ _ _ h => by cases h.1) (Or.inl ⟨by rfl, ?_⟩) hS ?_ ?_
  rotate_left
  · intro w' hb
    have s0 := hb.cell p1
    go_simp
    with_reducible rfl
  rotate_left
  · simp only [Act.put, List.setIfInBounds_toArray, List.set_cons_zero, List.set_cons_succ]
    rfl
  refine take_ (i := 12) (N := some 14) (v := ?_) (a' := ?_) #[true, true, true, false, true, false, true, false, true, false, true, false, true, false, false, false, false, false, false] rfl rfl (by kernel_rfl) (fun _ _ _ h => by cases h.1) (Or.inl ⟨by rfl, ?_⟩) hS ?_ ?_
  rotate_left
  · intro w' hb
    have s0 := hb.cell p1
    go_simp
    with_reducible rfl
  rotate_left
  · simp only [Act.put, List.setIfInBounds_toArray, List.set_cons_zero, List.set_cons_succ]
    rfl
  refine one_ (i := 3) (N := some 5) #[true, true, true, true, true, false, true, false, true, false, true, false, true, false, false, false, false, false, false] rfl rfl (by kernel_rfl) (by simp) (fun K hK => ?_)
  go_simp
  refine (DSt.next hd0).mono ?_
  rintro e u1 ⟨rfl, hd1, hk1⟩
  have hS1 := hS0.next hbs hk1
  have hkk1 := hkk0.trans hk1
  refine hK.out _ _ hS1 (fun _ => ?_)
  clear hK K
  refine one_ (i := 5) (N := some 7) #[true, true, true, true, true, true, true, false, true, false, true, false, true, false, false, false, false, false, false] rfl rfl (by kernel_rfl) (by simp) (fun K hK => ?_)
  go_simp
  refine (DSt.next hd1).mono ?_
  rintro e u2 ⟨rfl, hd2, hk2⟩
  have hS2 := hS1.next hbs hk2
  have hkk2 := hkk1.trans hk2
  refine hK.out _ _ hS2 (fun _ => ?_)
  clear hK K
  refine one_ (i := 7) (N := some 9) #[true, true, true, true, true, true, true, true, true, false, true, false, true, false, false, false, false, false, false] rfl rfl (by kernel_rfl) (by simp) (fun K hK => ?_)
  go_simp
  refine (DSt.next hd2).mono ?_
  rintro e u3 ⟨rfl, hd3, hk3⟩
  have hS3 := hS2.next hbs hk3
  have hkk3 := hkk2.trans hk3
  refine hK.out _ _ hS3 (fun _ => ?_)
  clear hK K
  refine one_ (i := 9) (N := some 11) #[true, true, true, true, true, true, true, true, true, true, true, false, true, false, false, false, false, false, false] rfl rfl (by kernel_rfl) (by simp) (fun K hK => ?_)
  go_simp
  refine (DSt.next hd3).mono ?_
  rintro e u4 ⟨rfl, hd4, hk4⟩
  have hS4 := hS3.next hbs hk4
  have hkk4 := hkk3.trans hk4
  refine hK.out _ _ hS4 (fun _ => ?_)
  clear hK K
  refine one_ (i := 11) (N := some 13) #[true, true, true, true, true, true, true, true, true, true, true, true, true, false, false, false, false, false, false] rfl rfl (by kernel_rfl) (by simp) (fun K hK => ?_)
  go_simp
  refine (DSt.next hd4).mono ?_
  rintro e u5 ⟨rfl, hd5, hk5⟩
  have hS5 := hS4.next hbs hk5
  have hkk5 := hkk4.trans hk5
  refine hK.out _ _ hS5 (fun _ => ?_)
  clear hK K
  refine one_ (i := 13) (N := some 15) #[true, true, true, true, true, true, true, true, true, true, true, true, true, true, false, false, false, false, false] rfl rfl (by kernel_rfl) (by simp) (fun K hK => ?_)
  go_simp
  refine (DSt.next hd5).mono ?_
  rintro e u6 ⟨rfl, hd6, hk6⟩
  have hS6 := hS5.next hbs hk6
  have hkk6 := hkk5.trans hk6
  refine hK.out _ _ hS6 (fun _ => ?_)
  clear hK K
  refine pure_ (i := 14) (N := some 16) (v := ?_) (a' := ?_) #[true, true, true, true, true, true, true, true, true, true, true, true, true, true, true, false, false, false, false] rfl rfl (by kernel_rfl) (fun _ _ _ h => by cases h.1) (Or.inl ⟨by rfl, ?_⟩) ?_ ?_
  rotate_left
  · intro w'
    go_simp
    with_reducible rfl
  rotate_left
  · simp only [Act.put, List.setIfInBounds_toArray, List.set_cons_zero, List.set_cons_succ]
    rfl
  refine one_ (i := 15) (N := some 17) #[true, true, true, true, true, true, true, true, true, true, true, true, true, true, true, true, false, false, false] rfl rfl (by kernel_rfl) (by simp) (fun K hK => ?_)
  go_simp
  refine hK.out _ _ (hS6.alloc hbs _) (fun _ => ?_)
  clear hK K
  refine last_ (i := 16) (N := some 18) #[true, true, true, true, true, true, true, true, true, true, true, true, true, true, true, true, true, false, false] rfl rfl (by kernel_rfl) (by simp) (fun K hK => ?_)
  have hvm := hkk6.blk hv (by omega) (by omega)
  have hrm : Kd.R (k59) 59 u6 W0.heap.size (fun _ => True) v a := Kd.R_mono (Kd.R_step (Kd.R_bound hr) (fun k ho hl => hkk6.2 k hl (by omega) (by omega) (by simp))) (fun _ _ => trivial)
  refine Kd.R_append_step (k59) (w0 := u6) W0.heap.size (by rfl) (.tmp 3) (.tmp 17) 26 59 (.agg #[.int .i64 0, .int .i64 0, .int .i64 0, .int .i64 0, .int .i64 0, .int .i64 0]) 48 rfl Try.underlying26 info59 rfl (by decide) (by omega) v a ⟨_, _, _, _, _, _⟩ [.int .i64 _, .int .i64 _, .int .i64 _, .int .i64 _, .int .i64 _, .int .i64 _] (fun _ => True) (fun _ => False) rfl rfl (k59_mkM _ _ _ _) (fun _ hk => hk.elim) (fun _ _ => trivial) hrm (Below.refl _ _) (Nat.le_trans hk0' hkk6.1) (by omega) ?_
  intro v' w5 ho hbw hg hat
  have happ : InvC (k59) 59 10 B w W0 (j + 1) (eachQ a r true).1 (eachQ a r true).2.1 (eachQ a r true).2.2 (w5.setCell ⟨w.heap.size + 6, 10, none⟩ v') := InvC.app (by omega) hk0 hk0' hkp hkk6 hd6 hrm hvm ho hbw hg (by show (a ++ [(_ : S59)]).length = _; rw [List.length_append, hlen]; rfl)
  obtain ⟨A5, k5, hv5e⟩ := Kd.R_slice ho
  subst hv5e
  refine hK.out _ _ ?_
  clear hK K
  refine pure_ (i := 17) (N := some 19) (v := ?_) (a' := ?_) #[true, true, true, true, true, true, true, true, true, true, true, true, true, true, true, true, true, true, false] rfl rfl (by kernel_rfl) (fun _ _ _ h => by cases h.1) (Or.inl ⟨by rfl, ?_⟩) ?_ ?_
  rotate_left
  · intro w'
    go_simp
    with_reducible rfl
  rotate_left
  · simp only [Act.put, List.setIfInBounds_toArray, List.set_cons_zero, List.set_cons_succ]
    rfl
  have hv5 := (hbw.block _ (by omega)).trans hvm
  have c5 := blk_cell hv5 10
  have f5 := blk_frozen hv5 10
  refine last_ (i := 18) (N := none) #[true, true, true, true, true, true, true, true, true, true, true, true, true, true, true, true, true, true, true] rfl rfl (by kernel_rfl) (by simp) (fun K hK => ?_)
  go_simp
  refine hK.out _ _ ?_
  refine done_ (by kernel_rfl) ?_
  rw [List.length_append, hlen] at happ
  exact ⟨rfl, rfl, happ⟩
def eachW (a : List (List Int)) (r : List Int) (f : Bool) : List (List Int) × List Int × Bool :=
  (a ++ [(listD r f).1], (listD r f).2)
set_option maxRecDepth 100000 in
set_option maxHeartbeats 16000000 in
theorem eachW_calls (w W0 : World) (B : Array Value) (hB : B.size = 12) (j : Nat) (a : List (List Int)) (r : List Int) (W : World) (hj : j < 65535) (h : InvC (Kd.slice 3 kI) 23 9 B w W0 j a r true W) :
    Calls Try.prog 41 #[.pointer (some ⟨w.heap.size + 6, 0, none⟩), .pointer (some ⟨w.heap.size + 5, 0, none⟩)] W fun e W' => e = .returned (.tuple #[]) ∧ InvC (Kd.slice 3 kI) 23 9 B w W0 (j + 1) (eachW a r true).1 (eachW a r true).2.1 (eachW a r true).2.2 W' := by
  obtain ⟨hd, hlen, hk0, hk0', ⟨v, hv, hr⟩, hkp⟩ := h
  obtain ⟨bs, hbse⟩ : ∃ bs, bs = [w.heap.size + 6, w.heap.size + 5] := ⟨_, rfl⟩
  have hbs : ∀ b ∈ bs, w.heap.size + 3 ≤ b ∧ b < W.heap.size := by
    intro b hb; rw [hbse] at hb; simp at hb; omega
  have p0 : Kcb W bs ⟨w.heap.size + 6, 9, none⟩ v := ⟨by rw [blk_cell hv 9]; simp [hB], by rw [hbse]; simp⟩
  have p2 : Kcb W bs ⟨w.heap.size + 5, 0, none⟩ (Value.func (.func 38) #[] #[.pointer (some ⟨w.heap.size + 4, 0, none⟩), .pointer (some ⟨w.heap.size + 3, 0, none⟩)]) := ⟨blk_cell hd.L 0, by rw [hbse]; simp⟩
  have hbd : Below W.heap.size W W.drew := (Below.refl _ _).drew
  have hS : Kb W bs W.drew := ⟨Nat.le_refl _, fun _ _ => rfl⟩
  have hd0 := hd.below hbd
  have hkk0 : KpD w W W.drew := KpD.below hbd
  go_enter Try.func41, Try.ntmps41
  refine region_e (S := Kb W bs) (ds := [5, 7]) (N := 8) (fun W' => InvC (Kd.slice 3 kI) 23 9 B w W0 (j + 1) (eachW a r true).1 (eachW a r true).2.1 (eachW a r true).2.2 W') #[false, false, false, false, false, false, false, false] hS (by kernel_rfl) rfl rfl ?_ ?_
  case' refine_2 => exact fun a' w' hda hi => bodyPost_end (results_none rfl _ _ _) hda ⟨rfl, hi⟩
  generalize W.drew = u0 at hS hd0 hkk0 ⊢
  have hS0 := hS
  refine pure_ (i := 0) (N := some 2) (v := ?_) (a' := ?_) #[true, false, false, false, false, false, false, false] rfl rfl (by kernel_rfl) (fun _ _ _ h => by cases h.1) (Or.inl ⟨by rfl, ?_⟩) ?_ ?_
  rotate_left
  · intro w'
    go_simp
    with_reducible rfl
  rotate_left
  · simp only [Act.put, List.setIfInBounds_toArray, List.set_cons_zero, List.set_cons_succ]
    rfl
  refine take_ (i := 1) (N := some 3) (v := ?_) (a' := ?_) #[true, true, false, false, false, false, false, false] rfl rfl (by kernel_rfl) (fun _ _ _ h => by cases h.1) (Or.inl ⟨by rfl, ?_⟩) hS ?_ ?_
  rotate_left
  · intro w' hb
    have s0 := hb.cell p0
    go_simp
    with_reducible rfl
  rotate_left
  · simp only [Act.put, List.setIfInBounds_toArray, List.set_cons_zero, List.set_cons_succ]
    rfl
  refine take_ (i := 2) (N := some 4) (v := ?_) (a' := ?_) #[true, true, true, false, false, false, false, false] rfl rfl (by kernel_rfl) (fun _ _ _ h => by cases h.1) (Or.inl ⟨by rfl, ?_⟩) hS ?_ ?_
  rotate_left
  · intro w' hb
    have s0 := hb.cell p2
    go_simp
    with_reducible rfl
  rotate_left
  · simp only [Act.put, List.setIfInBounds_toArray, List.set_cons_zero, List.set_cons_succ]
    rfl
  refine one_ (i := 3) (N := some 5) #[true, true, true, true, false, false, false, false] rfl rfl (by kernel_rfl) (by simp) (fun K hK => ?_)
  go_simp
  refine (list_calls' hd0).mono ?_
  rintro e u1 ⟨vL, rfl, hd1, hrl1, hll, hk1⟩
  obtain ⟨AL, cL, rfl⟩ := Kd.R_slice hrl1
  have hS1 := hS0.next hbs hk1
  have hkk1 := hkk0.trans hk1
  refine hK.out _ _ hS1 (fun _ => ?_)
  clear hK K
  refine one_ (i := 4) (N := some 6) #[true, true, true, true, true, false, false, false] rfl rfl (by kernel_rfl) (by simp) (fun K hK => ?_)
  go_simp
  refine hK.out _ _ (hS1.alloc hbs _) (fun _ => ?_)
  clear hK K
  refine last_ (i := 5) (N := some 7) #[true, true, true, true, true, true, false, false] rfl rfl (by kernel_rfl) (by simp) (fun K hK => ?_)
  have hvm := hkk1.blk hv (by omega) (by omega)
  have hrm : Kd.R ((Kd.slice 3 kI)) 23 u1 W0.heap.size (fun _ => True) v a := Kd.R_mono (Kd.R_step (Kd.R_bound hr) (fun k ho hl => hkk1.2 k hl (by omega) (by omega) (by simp))) (fun _ _ => trivial)
  refine Kd.R_append_step ((Kd.slice 3 kI)) (w0 := u1) W0.heap.size (by rfl) (.tmp 3) (.tmp 6) 25 23 (.slice none 0 0) 24 rfl Try.underlying25 info23 rfl (by decide) (by omega) v a _ [_] (fun _ => True) (fun k => u0.heap.size < k) rfl rfl (Kd.M_row (Kd.R_lower hrl1 (Nat.le_trans hk0' hkk0.1))) (fun k hk => ⟨trivial, fun he => by have := Kd.R_lt hr k he.symm; have := hkk0.1; omega⟩) (fun _ _ => trivial) hrm (Below.refl _ _) (Nat.le_trans hk0' hkk1.1) (by omega) ?_
  intro v' w5 ho hbw hg hat
  have happ : InvC ((Kd.slice 3 kI)) 23 9 B w W0 (j + 1) (eachW a r true).1 (eachW a r true).2.1 (eachW a r true).2.2 (w5.setCell ⟨w.heap.size + 6, 9, none⟩ v') := InvC.app (by omega) hk0 hk0' hkp hkk1 hd1 hrm hvm ho hbw hg (by show (a ++ [(_ : List Int)]).length = _; rw [List.length_append, hlen]; rfl)
  obtain ⟨A5, k5, hv5e⟩ := Kd.R_slice ho
  subst hv5e
  refine hK.out _ _ ?_
  clear hK K
  refine pure_ (i := 6) (N := some 8) (v := ?_) (a' := ?_) #[true, true, true, true, true, true, true, false] rfl rfl (by kernel_rfl) (fun _ _ _ h => by cases h.1) (Or.inl ⟨by rfl, ?_⟩) ?_ ?_
  rotate_left
  · intro w'
    go_simp
    with_reducible rfl
  rotate_left
  · simp only [Act.put, List.setIfInBounds_toArray, List.set_cons_zero, List.set_cons_succ]
    rfl
  have hv5 := (hbw.block _ (by omega)).trans hvm
  have c5 := blk_cell hv5 9
  have f5 := blk_frozen hv5 9
  refine last_ (i := 7) (N := none) #[true, true, true, true, true, true, true, true] rfl rfl (by kernel_rfl) (by simp) (fun K hK => ?_)
  go_simp
  refine hK.out _ _ ?_
  refine done_ (by kernel_rfl) ?_
  rw [List.length_append, hlen] at happ
  exact ⟨rfl, rfl, happ⟩
def eachK (a : List (S61)) (r : List Int) (f : Bool) : List (S61) × List Int × Bool :=
  let n1 := nextD r f; let n2 := nextD n1.2.1 n1.2.2; let l3 := listD n2.2.1 n2.2.2
  (a ++ [⟨n1.1, l3.1, n2.1⟩], l3.2)
set_option maxRecDepth 100000 in
set_option maxHeartbeats 16000000 in
theorem eachK_calls (w W0 : World) (B : Array Value) (hB : B.size = 12) (j : Nat) (a : List (S61)) (r : List Int) (W : World) (hj : j < 65535) (h : InvC k61 61 11 B w W0 j a r true W) :
    Calls Try.prog 43 #[.pointer (some ⟨w.heap.size + 6, 0, none⟩), .pointer (some ⟨w.heap.size + 3, 0, none⟩), .pointer (some ⟨w.heap.size + 5, 0, none⟩)] W fun e W' => e = .returned (.tuple #[]) ∧ InvC k61 61 11 B w W0 (j + 1) (eachK a r true).1 (eachK a r true).2.1 (eachK a r true).2.2 W' := by
  obtain ⟨hd, hlen, hk0, hk0', ⟨v, hv, hr⟩, hkp⟩ := h
  obtain ⟨bs, hbse⟩ : ∃ bs, bs = [w.heap.size + 6, w.heap.size + 3, w.heap.size + 5] := ⟨_, rfl⟩
  have hbs : ∀ b ∈ bs, w.heap.size + 3 ≤ b ∧ b < W.heap.size := by
    intro b hb; rw [hbse] at hb; simp at hb; omega
  have p0 : Kcb W bs ⟨w.heap.size + 6, 11, none⟩ v := ⟨by rw [blk_cell hv 11]; simp [hB], by rw [hbse]; simp⟩
  have p1 : Kcb W bs ⟨w.heap.size + 3, 0, none⟩ (Value.func (.func 36) #[] #[.pointer (some ⟨w.heap.size + 2, 0, none⟩), .pointer (some ⟨w.heap.size + 1, 0, none⟩)]) := ⟨blk_cell hd.N 0, by rw [hbse]; simp⟩
  have p2 : Kcb W bs ⟨w.heap.size + 5, 0, none⟩ (Value.func (.func 38) #[] #[.pointer (some ⟨w.heap.size + 4, 0, none⟩), .pointer (some ⟨w.heap.size + 3, 0, none⟩)]) := ⟨blk_cell hd.L 0, by rw [hbse]; simp⟩
  have hbd : Below W.heap.size W W.drew := (Below.refl _ _).drew
  have hS : Kb W bs W.drew := ⟨Nat.le_refl _, fun _ _ => rfl⟩
  have hd0 := hd.below hbd
  have hkk0 : KpD w W W.drew := KpD.below hbd
  go_enter Try.func43, Try.ntmps43
  refine region_e (S := Kb W bs) (ds := [10, 12]) (N := 13) (fun W' => InvC k61 61 11 B w W0 (j + 1) (eachK a r true).1 (eachK a r true).2.1 (eachK a r true).2.2 W') #[false, false, false, false, false, false, false, false, false, false, false, false, false] hS (by kernel_rfl) rfl rfl ?_ ?_
  case' refine_2 => exact fun a' w' hda hi => bodyPost_end (results_none rfl _ _ _) hda ⟨rfl, hi⟩
  generalize W.drew = u0 at hS hd0 hkk0 ⊢
  have hS0 := hS
  refine pure_ (i := 0) (N := some 3) (v := ?_) (a' := ?_) #[true, false, false, false, false, false, false, false, false, false, false, false, false] rfl rfl (by kernel_rfl) (fun _ _ _ h => by cases h.1) (Or.inl ⟨by rfl, ?_⟩) ?_ ?_
  rotate_left
  · intro w'
    go_simp
    with_reducible rfl
  rotate_left
  · simp only [Act.put, List.setIfInBounds_toArray, List.set_cons_zero, List.set_cons_succ]
    rfl
  refine take_ (i := 1) (N := some 4) (v := ?_) (a' := ?_) #[true, true, false, false, false, false, false, false, false, false, false, false, false] rfl rfl (by kernel_rfl) (fun _ _ _ h => by cases h.1) (Or.inl ⟨by rfl, ?_⟩) hS ?_ ?_
  rotate_left
  · intro w' hb
    have s0 := hb.cell p0
    go_simp
    with_reducible rfl
  rotate_left
  · simp only [Act.put, List.setIfInBounds_toArray, List.set_cons_zero, List.set_cons_succ]
    rfl
  refine take_ (i := 2) (N := some 5) (v := ?_) (a' := ?_) #[true, true, true, false, false, false, false, false, false, false, false, false, false] rfl rfl (by kernel_rfl) (fun _ _ _ h => by cases h.1) (Or.inl ⟨by rfl, ?_⟩) hS ?_ ?_
  rotate_left
  · intro w' hb
    have s0 := hb.cell p1
    go_simp
    with_reducible rfl
  rotate_left
  · simp only [Act.put, List.setIfInBounds_toArray, List.set_cons_zero, List.set_cons_succ]
    rfl
  refine take_ (i := 4) (N := some 7) (v := ?_) (a' := ?_) #[true, true, true, false, true, false, false, false, false, false, false, false, false] rfl rfl (by kernel_rfl) (fun _ _ _ h => by cases h.1) (Or.inl ⟨by rfl, ?_⟩) hS ?_ ?_
  rotate_left
  · intro w' hb
    have s0 := hb.cell p1
    go_simp
    with_reducible rfl
  rotate_left
  · simp only [Act.put, List.setIfInBounds_toArray, List.set_cons_zero, List.set_cons_succ]
    rfl
  refine take_ (i := 6) (N := some 9) (v := ?_) (a' := ?_) #[true, true, true, false, true, false, true, false, false, false, false, false, false] rfl rfl (by kernel_rfl) (fun _ _ _ h => by cases h.1) (Or.inl ⟨by rfl, ?_⟩) hS ?_ ?_
  rotate_left
  · intro w' hb
    have s0 := hb.cell p2
    go_simp
    with_reducible rfl
  rotate_left
  · simp only [Act.put, List.setIfInBounds_toArray, List.set_cons_zero, List.set_cons_succ]
    rfl
  refine one_ (i := 3) (N := some 6) #[true, true, true, true, true, false, true, false, false, false, false, false, false] rfl rfl (by kernel_rfl) (by simp) (fun K hK => ?_)
  go_simp
  refine (DSt.next hd0).mono ?_
  rintro e u1 ⟨rfl, hd1, hk1⟩
  have hS1 := hS0.next hbs hk1
  have hkk1 := hkk0.trans hk1
  refine hK.out _ _ hS1 (fun _ => ?_)
  clear hK K
  refine one_ (i := 5) (N := some 8) #[true, true, true, true, true, true, true, false, false, false, false, false, false] rfl rfl (by kernel_rfl) (by simp) (fun K hK => ?_)
  go_simp
  refine (DSt.next hd1).mono ?_
  rintro e u2 ⟨rfl, hd2, hk2⟩
  have hS2 := hS1.next hbs hk2
  have hkk2 := hkk1.trans hk2
  refine hK.out _ _ hS2 (fun _ => ?_)
  clear hK K
  refine one_ (i := 7) (N := some 10) #[true, true, true, true, true, true, true, true, false, false, false, false, false] rfl rfl (by kernel_rfl) (by simp) (fun K hK => ?_)
  go_simp
  refine (list_calls' hd2).mono ?_
  rintro e u3 ⟨vL, rfl, hd3, hrl3, hll, hk3⟩
  obtain ⟨AL, cL, rfl⟩ := Kd.R_slice hrl3
  have hS3 := hS2.next hbs hk3
  have hkk3 := hkk2.trans hk3
  refine hK.out _ _ hS3 (fun _ => ?_)
  clear hK K
  refine pure_ (i := 8) (N := some 11) (v := ?_) (a' := ?_) #[true, true, true, true, true, true, true, true, true, false, false, false, false] rfl rfl (by kernel_rfl) (fun _ _ _ h => by cases h.1) (Or.inl ⟨by rfl, ?_⟩) ?_ ?_
  rotate_left
  · intro w'
    go_simp
    with_reducible rfl
  rotate_left
  · simp only [Act.put, List.setIfInBounds_toArray, List.set_cons_zero, List.set_cons_succ]
    rfl
  refine one_ (i := 9) (N := some 12) #[true, true, true, true, true, true, true, true, true, true, false, false, false] rfl rfl (by kernel_rfl) (by simp) (fun K hK => ?_)
  go_simp
  refine hK.out _ _ (hS3.alloc hbs _) (fun _ => ?_)
  clear hK K
  refine last_ (i := 10) (N := some 13) #[true, true, true, true, true, true, true, true, true, true, true, false, false] rfl rfl (by kernel_rfl) (by simp) (fun K hK => ?_)
  have hvm := hkk3.blk hv (by omega) (by omega)
  have hrm : Kd.R (k61) 61 u3 W0.heap.size (fun _ => True) v a := Kd.R_mono (Kd.R_step (Kd.R_bound hr) (fun k ho hl => hkk3.2 k hl (by omega) (by omega) (by simp))) (fun _ _ => trivial)
  refine Kd.R_append_step (k61) (w0 := u3) W0.heap.size (by rfl) (.tmp 4) (.tmp 12) 27 61 (.agg #[.int .i64 0, .slice none 0 0, .int .i64 0]) 40 rfl Try.underlying27 info61 rfl (by decide) (by omega) v a ⟨_, _, _⟩ [.int .i64 _, _, .int .i64 _] (fun _ => True) (fun k => u2.heap.size < k) rfl rfl (k61_mkM _ _ _ _ (Kd.R_lower hrl3 (Nat.le_trans hk0' hkk2.1))) (fun k hk => ⟨trivial, fun he => by have := Kd.R_lt hr k he.symm; have := hkk2.1; omega⟩) (fun _ _ => trivial) hrm (Below.refl _ _) (Nat.le_trans hk0' hkk3.1) (by omega) ?_
  intro v' w5 ho hbw hg hat
  have happ : InvC (k61) 61 11 B w W0 (j + 1) (eachK a r true).1 (eachK a r true).2.1 (eachK a r true).2.2 (w5.setCell ⟨w.heap.size + 6, 11, none⟩ v') := InvC.app (by omega) hk0 hk0' hkp hkk3 hd3 hrm hvm ho hbw hg (by show (a ++ [(_ : S61)]).length = _; rw [List.length_append, hlen]; rfl)
  obtain ⟨A5, k5, hv5e⟩ := Kd.R_slice ho
  subst hv5e
  refine hK.out _ _ ?_
  clear hK K
  refine pure_ (i := 11) (N := some 14) (v := ?_) (a' := ?_) #[true, true, true, true, true, true, true, true, true, true, true, true, false] rfl rfl (by kernel_rfl) (fun _ _ _ h => by cases h.1) (Or.inl ⟨by rfl, ?_⟩) ?_ ?_
  rotate_left
  · intro w'
    go_simp
    with_reducible rfl
  rotate_left
  · simp only [Act.put, List.setIfInBounds_toArray, List.set_cons_zero, List.set_cons_succ]
    rfl
  have hv5 := (hbw.block _ (by omega)).trans hvm
  have c5 := blk_cell hv5 11
  have f5 := blk_frozen hv5 11
  refine last_ (i := 12) (N := none) #[true, true, true, true, true, true, true, true, true, true, true, true, true] rfl rfl (by kernel_rfl) (by simp) (fun K hK => ?_)
  go_simp
  refine hK.out _ _ ?_
  refine done_ (by kernel_rfl) ?_
  rw [List.length_append, hlen] at happ
  exact ⟨rfl, rfl, happ⟩
end Go.Proofs.Ytehbabkgaecoaaa
