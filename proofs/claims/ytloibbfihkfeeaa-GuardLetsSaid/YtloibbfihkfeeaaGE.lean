/- What guard's Plan answers. -/
import Derived.Test.YtloibbfihkfeeaaGD
import Derived.Test.YtloibbfihkfeeaaWLast
namespace Go.Proofs.Ytloibbfihkfeeaa
set_option linter.unusedVariables false
set_option linter.unusedSimpArgs false
open Go.RowKit Go.Shelf Go.Proofs.YtloibbfihkfeeaaW.PrintWords Go.Proofs.YtloibbfihkfeeaaW.PrintLast

def planW (C : S28) (length slot offset : Int) : Sh × Int :=
  if mayW C length offset [] ≠ 0 then (⟨0, 0, 0⟩, mayW C length offset []) else if slot < 0 ∨ 2147483647 < slot then (⟨0, 0, 0⟩, 2)
  else (⟨ownerW C slot, slot * length - offset + C.f4, slot * length - offset + length - C.f4⟩, 0)
theorem plan_ret {r : Sh × Int} {a b c n : Int} (h : r = (⟨a, b, c⟩, n)) : Ending.returned (.tuple #[.agg #[.int .i64 a, .int .i64 b, .int .i64 c], .int .i64 n]) = .returned (.tuple #[.agg #[.int .i64 r.1.f0, .int .i64 r.1.f1, .int .i64 r.1.f2], .int .i64 r.2]) := by subst h; rfl
/-- What lay in W lies so in V. -/
def Bw (W V : World) : Prop := Below W.heap.size W V
theorem Bw.cell {W V : World} (h : Bw W V) {p : Addr} {v : Value} (hc : W.cell? p = some v) : V.cell? p = some v := (Below.cell h (World.block_lt_of_cell? W _ hc)).trans hc
theorem Bw.drew0 (W : World) : Bw W W.drew := (Below.refl _ _).drew
/-- The law: what each order of a region that draws comes to (by the words' steps), the frame told by what is put. -/
theorem region_flat {P : Program} {ops : Array Oper} {Q : Exit → Act → World → Prop} {id N : Nat} {σ : Type} {a : Act} {w : World} {S : World → Prop} {ds : List Nat} (vals : σ → List (Tmp × Value)) (R : σ → World → Prop) (lst : Array Bool) (hS : S w.drew) (hm : P.follows .mixedOrders = true) (hN : ops.size = N) (hl : Array.replicate N false = lst)
    (h1 : wpAnyLast P .any ops (fun e a' w' => e = .normal ∧ ∃ s, a' = putAll a (vals s) ∧ R s w') S ds N lst a w.drew)
    (h2 : ∀ s w', R s w' → Q .normal (putAll a (vals s)) w') : (Code.region id ops true).wp P Q a w := by
  refine wp_mono (Q := fun e a' w' => e = .normal ∧ ∃ s, a' = putAll a (vals s) ∧ R s w') (start_ lst hm hN hl hS (fun _ => h1)) ?_
  rintro e a' w' ⟨rfl, s, rfl, hr⟩
  exact h2 s w' hr
theorem empty_shots (w : World) : Kd.C k32 w none ([] : List Sh).length [] := ⟨rfl, by simp, fun h => by simp at h⟩
set_option maxRecDepth 100000 in
set_option maxHeartbeats 8000000 in
theorem plan_calls (A1 A8 A9 A10 A11 : Option Addr) (c1 c8 c9 c10 c11 : Nat) (C : S28) (w : World) (h : CfgIn w C A1 A8 A9 A10 A11 c1 c8 c9 c10 c11) (length slot offset : Int) :
    Calls Try.prog 12 #[.agg #[.int .i64 C.f0, .slice A1 C.f1.length c1, .int .i64 C.f2, .int .i64 C.f3, .int .i64 C.f4, .int .i64 C.f5, .int .i64 C.f6, .int .i64 C.f7, .slice A8 C.f8.length c8, .slice A9 C.f9.length c9, .slice A10 C.f10.length c10, .slice A11 C.f11.length c11], .int .i64 length, .int .i64 slot, .int .i64 offset] w fun e w' => e = .returned (.tuple #[.agg #[.int .i64 (planW C length slot offset).1.f0, .int .i64 (planW C length slot offset).1.f1, .int .i64 (planW C length slot offset).1.f2], .int .i64 (planW C length slot offset).2]) ∧ Below w.heap.size w w' := by
  have HR := Lib.hid h
  have HBa := Lib.hid (show Below w.heap.size w ((w.alloc (Obj.cells #[.int .i64 C.f0, .slice A1 C.f1.length c1, .int .i64 C.f2, .int .i64 C.f3, .int .i64 C.f4, .int .i64 C.f5, .int .i64 C.f6, .int .i64 C.f7, .slice A8 C.f8.length c8, .slice A9 C.f9.length c9, .slice A10 C.f10.length c10, .slice A11 C.f11.length c11] 28)).alloc (Obj.cells #[.int .i64 0, .int .i64 0, .int .i64 0] 32)) from ((Below.refl _ _).alloc (Nat.le_refl _) _).alloc (by simp) _)
  have HZ := Lib.hid (show ((w.alloc (Obj.cells #[.int .i64 C.f0, .slice A1 C.f1.length c1, .int .i64 C.f2, .int .i64 C.f3, .int .i64 C.f4, .int .i64 C.f5, .int .i64 C.f6, .int .i64 C.f7, .slice A8 C.f8.length c8, .slice A9 C.f9.length c9, .slice A10 C.f10.length c10, .slice A11 C.f11.length c11] 28)).alloc (Obj.cells #[.int .i64 0, .int .i64 0, .int .i64 0] 32)).heap[w.heap.size + 1]? = some (Obj.cells #[.int .i64 0, .int .i64 0, .int .i64 0] 32) by have := blk_new (w.alloc (Obj.cells #[.int .i64 C.f0, .slice A1 C.f1.length c1, .int .i64 C.f2, .int .i64 C.f3, .int .i64 C.f4, .int .i64 C.f5, .int .i64 C.f6, .int .i64 C.f7, .slice A8 C.f8.length c8, .slice A9 C.f9.length c9, .slice A10 C.f10.length c10, .slice A11 C.f11.length c11] 28)) (Obj.cells #[.int .i64 0, .int .i64 0, .int .i64 0] 32); rwa [World.size_alloc] at this)
  have HC := Lib.hid (blk_alloc (blk_new w (Obj.cells #[.int .i64 C.f0, .slice A1 C.f1.length c1, .int .i64 C.f2, .int .i64 C.f3, .int .i64 C.f4, .int .i64 C.f5, .int .i64 C.f6, .int .i64 C.f7, .slice A8 C.f8.length c8, .slice A9 C.f9.length c9, .slice A10 C.f10.length c10, .slice A11 C.f11.length c11] 28)) (Obj.cells #[.int .i64 0, .int .i64 0, .int .i64 0] 32))
  clear h
  obtain ⟨r, hr⟩ : ∃ r, r = planW C length slot offset := ⟨_, rfl⟩
  rw [← hr]
  obtain ⟨n, hn⟩ : ∃ n, n = mayW C length offset [] := ⟨_, rfl⟩
  have HNN := Lib.hid hn
  rw [planW, ← hn] at hr
  have HRR := Lib.hid hr
  clear hr hn
  go_enter Try.func12, Try.ntmps12
  go_wp2_with fail
  refine (may_calls _ _ _ _ _ _ _ _ _ _ C _ (HR.out.below HBa.out) length offset none 0 [] (empty_shots _)).mono ?_
  rintro e W1 ⟨rfl, hb1⟩
  rw [← HNN.out]
  have HB1 := Lib.hid (HBa.out.trans (hb1.mono HBa.out.size))
  have HZ1 := Lib.hid (blk_keep hb1 HZ.out)
  have HC1 := Lib.hid (blk_keep hb1 HC.out)
  have hlt0 := blk_lt HC1.out
  have hlt1 := blk_lt HZ1.out
  have z0 := blk_cell HZ1.out 0
  have z1 := blk_cell HZ1.out 1
  have z2 := blk_cell HZ1.out 2
  have zf0 := blk_frozen HZ1.out 0
  have zf1 := blk_frozen HZ1.out 1
  have zf2 := blk_frozen HZ1.out 2
  clear hb1
  by_cases h0 : n = 0
  case neg =>
    have e0 : (n != 0) = true := by simpa using h0
    have hres := Lib.hid (show r = (⟨0, 0, 0⟩, n) by rw [HRR.out, if_pos h0])
    clear h0
    go_wp2
    go_ways
    refine bodyPost_ret (v := .tuple #[.agg #[.int .i64 0, .int .i64 0, .int .i64 0], .int .i64 n]) (by simp [results, Try.f12, go_sem, z0, z1, z2, zf0, zf1, zf2]) rfl ?_
    exact ⟨plan_ret hres.out, ((HB1.out.setCell (p := ⟨w.heap.size + 1, 0, none⟩) (by simp) _).setCell (p := ⟨w.heap.size + 1, 1, none⟩) (by simp) _).setCell (p := ⟨w.heap.size + 1, 2, none⟩) (by simp) _⟩
  obtain ⟨hck, m1, m2, m3, m4, m5, -⟩ := may_bounds (HNN.out.symm.trans h0)
  obtain ⟨mm0, mm1⟩ := check_margin hck
  have e0 : (n != 0) = false := by simpa using h0
  by_cases q1 : slot < 0
  · have hres := Lib.hid (show r = (⟨0, 0, 0⟩, 2) by rw [HRR.out, if_neg (by simp [h0]), if_pos (.inl q1)])
    clear h0
    go_wp2
    go_ways
    refine bodyPost_ret (v := .tuple #[.agg #[.int .i64 0, .int .i64 0, .int .i64 0], .int .i64 2]) (by simp [results, Try.f12, go_sem, z0, z1, z2, zf0, zf1, zf2]) rfl ?_
    exact ⟨plan_ret hres.out, ((HB1.out.setCell (p := ⟨w.heap.size + 1, 0, none⟩) (by simp) _).setCell (p := ⟨w.heap.size + 1, 1, none⟩) (by simp) _).setCell (p := ⟨w.heap.size + 1, 2, none⟩) (by simp) _⟩
  by_cases q2 : 2147483647 < slot
  · have hres := Lib.hid (show r = (⟨0, 0, 0⟩, 2) by rw [HRR.out, if_neg (by simp [h0]), if_pos (.inr q2)])
    clear h0
    go_wp2
    go_ways
    refine bodyPost_ret (v := .tuple #[.agg #[.int .i64 0, .int .i64 0, .int .i64 0], .int .i64 2]) (by simp [results, Try.f12, go_sem, z0, z1, z2, zf0, zf1, zf2]) rfl ?_
    exact ⟨plan_ret hres.out, ((HB1.out.setCell (p := ⟨w.heap.size + 1, 0, none⟩) (by simp) _).setCell (p := ⟨w.heap.size + 1, 1, none⟩) (by simp) _).setCell (p := ⟨w.heap.size + 1, 2, none⟩) (by simp) _⟩
  have hres := Lib.hid (show r = (⟨ownerW C slot, slot * length - offset + C.f4, slot * length - offset + length - C.f4⟩, 0) by rw [HRR.out, if_neg (by simp [h0]), if_neg (by omega)])
  clear h0
  have hp0 : 0 ≤ slot * length := Int.mul_nonneg (by omega) (by omega)
  have hp1 : slot * length ≤ 2147483647 * 16777216 := Int.mul_le_mul (by omega) (by omega) (by omega) (by omega)
  have hp2 : slot * length ≤ 36028797018963968 := by omega
  clear hp1
  obtain ⟨g0, g1, g2, g3, g4, g5, g6, g7, g8, g9, g10, g11⟩ := cfg_cells HC1.out
  obtain ⟨o, ho⟩ : ∃ o, o = ownerW C slot := ⟨_, rfl⟩
  rw [← ho] at hres
  have HO := Lib.hid ho
  clear ho
  have w1 : IntKind.i64.wrap (slot * length - offset + C.f4) = slot * length - offset + C.f4 := IntWalk.i64_in _ (by omega)
  have w2 : IntKind.i64.wrap (slot * length - offset + length) = slot * length - offset + length := IntWalk.i64_in _ (by omega)
  have w3 : IntKind.i64.wrap (slot * length - offset + length - C.f4) = slot * length - offset + length - C.f4 := IntWalk.i64_in _ (by omega)
  go_wp2
  go_ways
  refine region_flat (S := Bw W1) (N := 16) (σ := Unit) (ds := [14]) (fun _ => [(32, .agg #[.int .i64 C.f0, .slice A1 C.f1.length c1, .int .i64 C.f2, .int .i64 C.f3, .int .i64 C.f4, .int .i64 C.f5, .int .i64 C.f6, .int .i64 C.f7, .slice A8 C.f8.length c8, .slice A9 C.f9.length c9, .slice A10 C.f10.length c10, .slice A11 C.f11.length c11]), (33, .int .i64 slot), (35, .int .i64 (slot * length - offset)), (36, .pointer (some ⟨w.heap.size, 4, none⟩)), (37, .int .i64 C.f4), (38, .int .i64 (slot * length - offset + C.f4)), (39, .int .i64 (slot * length - offset)), (40, .int .i64 length), (41, .int .i64 (slot * length - offset + length)), (42, .pointer (some ⟨w.heap.size, 4, none⟩)), (43, .int .i64 C.f4), (44, .int .i64 (slot * length - offset + length - C.f4)), (34, .int .i64 o), (45, .agg #[.int .i64 o, .int .i64 (slot * length - offset + C.f4), .int .i64 (slot * length - offset + length - C.f4)]), (9, .int .i64 0)]) (fun _ w' => Below w.heap.size w w' ∧ w'.cell? ⟨w.heap.size + 1, 0, none⟩ = some (.int .i64 o) ∧ w'.cell? ⟨w.heap.size + 1, 1, none⟩ = some (.int .i64 (slot * length - offset + C.f4)) ∧ w'.cell? ⟨w.heap.size + 1, 2, none⟩ = some (.int .i64 (slot * length - offset + length - C.f4))) #[false, false, false, false, false, false, false, false, false, false, false, false, false, false, false, false] (Bw.drew0 W1) (by kernel_rfl) rfl rfl ?_ ?_
  · have hS := Bw.drew0 W1
    generalize W1.drew = Wd at hS ⊢
    refine take_ (i := 0) (N := some 32) (v := ?_) (a' := ?_) #[true, false, false, false, false, false, false, false, false, false, false, false, false, false, false, false] rfl rfl (by kernel_rfl) (fun _ _ _ h => by cases h.1) (Or.inl ⟨by rfl, ?_⟩) hS ?_ ?_
    rotate_left
    · intro w' hb
      have s0 := hb.cell g0
      have s1 := hb.cell g1
      have s2 := hb.cell g2
      have s3 := hb.cell g3
      have s4 := hb.cell g4
      have s5 := hb.cell g5
      have s6 := hb.cell g6
      have s7 := hb.cell g7
      have s8 := hb.cell g8
      have s9 := hb.cell g9
      have s10 := hb.cell g10
      have s11 := hb.cell g11
      go_simp
      with_reducible rfl
    rotate_left
    · simp only [Act.put, List.setIfInBounds_toArray, List.set_cons_zero, List.set_cons_succ]
      rfl
    refine pure_ (i := 1) (N := some 33) (v := ?_) (a' := ?_) #[true, true, false, false, false, false, false, false, false, false, false, false, false, false, false, false] rfl rfl (by kernel_rfl) (fun _ _ _ h => by cases h.1) (Or.inl ⟨by rfl, ?_⟩) ?_ ?_
    rotate_left
    · intro w'
      go_simp
      with_reducible rfl
    rotate_left
    · simp only [Act.put, List.setIfInBounds_toArray, List.set_cons_zero, List.set_cons_succ]
      rfl
    refine pure_ (i := 3) (N := some 35) (v := ?_) (a' := ?_) #[true, true, false, true, false, false, false, false, false, false, false, false, false, false, false, false] rfl rfl (by kernel_rfl) (fun _ _ _ h => by cases h.1) (Or.inl ⟨by rfl, ?_⟩) ?_ ?_
    rotate_left
    · intro w'
      go_simp
      with_reducible rfl
    rotate_left
    · simp only [Act.put, List.setIfInBounds_toArray, List.set_cons_zero, List.set_cons_succ]
      rfl
    refine pure_ (i := 4) (N := some 36) (v := ?_) (a' := ?_) #[true, true, false, true, true, false, false, false, false, false, false, false, false, false, false, false] rfl rfl (by kernel_rfl) (fun _ _ _ h => by cases h.1) (Or.inl ⟨by rfl, ?_⟩) ?_ ?_
    rotate_left
    · intro w'
      go_simp
      with_reducible rfl
    rotate_left
    · simp only [Act.put, List.setIfInBounds_toArray, List.set_cons_zero, List.set_cons_succ]
      rfl
    refine take_ (i := 5) (N := some 37) (v := ?_) (a' := ?_) #[true, true, false, true, true, true, false, false, false, false, false, false, false, false, false, false] rfl rfl (by kernel_rfl) (fun _ _ _ h => by cases h.1) (Or.inl ⟨by rfl, ?_⟩) hS ?_ ?_
    rotate_left
    · intro w' hb
      have s0 := hb.cell g4
      go_simp
      with_reducible rfl
    rotate_left
    · simp only [Act.put, List.setIfInBounds_toArray, List.set_cons_zero, List.set_cons_succ]
      rfl
    refine pure_ (i := 6) (N := some 38) (v := ?_) (a' := ?_) #[true, true, false, true, true, true, true, false, false, false, false, false, false, false, false, false] rfl rfl (by kernel_rfl) (fun _ _ _ h => by cases h.1) (Or.inl ⟨by rfl, ?_⟩) ?_ ?_
    rotate_left
    · intro w'
      go_simp
      with_reducible rfl
    rotate_left
    · simp only [Act.put, List.setIfInBounds_toArray, List.set_cons_zero, List.set_cons_succ]
      rfl
    refine pure_ (i := 7) (N := some 39) (v := ?_) (a' := ?_) #[true, true, false, true, true, true, true, true, false, false, false, false, false, false, false, false] rfl rfl (by kernel_rfl) (fun _ _ _ h => by cases h.1) (Or.inl ⟨by rfl, ?_⟩) ?_ ?_
    rotate_left
    · intro w'
      go_simp
      with_reducible rfl
    rotate_left
    · simp only [Act.put, List.setIfInBounds_toArray, List.set_cons_zero, List.set_cons_succ]
      rfl
    refine pure_ (i := 8) (N := some 40) (v := ?_) (a' := ?_) #[true, true, false, true, true, true, true, true, true, false, false, false, false, false, false, false] rfl rfl (by kernel_rfl) (fun _ _ _ h => by cases h.1) (Or.inl ⟨by rfl, ?_⟩) ?_ ?_
    rotate_left
    · intro w'
      go_simp
      with_reducible rfl
    rotate_left
    · simp only [Act.put, List.setIfInBounds_toArray, List.set_cons_zero, List.set_cons_succ]
      rfl
    refine pure_ (i := 9) (N := some 41) (v := ?_) (a' := ?_) #[true, true, false, true, true, true, true, true, true, true, false, false, false, false, false, false] rfl rfl (by kernel_rfl) (fun _ _ _ h => by cases h.1) (Or.inl ⟨by rfl, ?_⟩) ?_ ?_
    rotate_left
    · intro w'
      go_simp
      with_reducible rfl
    rotate_left
    · simp only [Act.put, List.setIfInBounds_toArray, List.set_cons_zero, List.set_cons_succ]
      rfl
    refine pure_ (i := 10) (N := some 42) (v := ?_) (a' := ?_) #[true, true, false, true, true, true, true, true, true, true, true, false, false, false, false, false] rfl rfl (by kernel_rfl) (fun _ _ _ h => by cases h.1) (Or.inl ⟨by rfl, ?_⟩) ?_ ?_
    rotate_left
    · intro w'
      go_simp
      with_reducible rfl
    rotate_left
    · simp only [Act.put, List.setIfInBounds_toArray, List.set_cons_zero, List.set_cons_succ]
      rfl
    refine take_ (i := 11) (N := some 43) (v := ?_) (a' := ?_) #[true, true, false, true, true, true, true, true, true, true, true, true, false, false, false, false] rfl rfl (by kernel_rfl) (fun _ _ _ h => by cases h.1) (Or.inl ⟨by rfl, ?_⟩) hS ?_ ?_
    rotate_left
    · intro w' hb
      have s0 := hb.cell g4
      go_simp
      with_reducible rfl
    rotate_left
    · simp only [Act.put, List.setIfInBounds_toArray, List.set_cons_zero, List.set_cons_succ]
      rfl
    refine pure_ (i := 12) (N := some 44) (v := ?_) (a' := ?_) #[true, true, false, true, true, true, true, true, true, true, true, true, true, false, false, false] rfl rfl (by kernel_rfl) (fun _ _ _ h => by cases h.1) (Or.inl ⟨by rfl, ?_⟩) ?_ ?_
    rotate_left
    · intro w'
      go_simp
      with_reducible rfl
    rotate_left
    · simp only [Act.put, List.setIfInBounds_toArray, List.set_cons_zero, List.set_cons_succ]
      rfl
    refine one_ (i := 2) (N := some 34) #[true, true, true, true, true, true, true, true, true, true, true, true, true, false, false, false] rfl rfl (by kernel_rfl) (by simp) (fun K hK => ?_)
    go_simp
    refine (owner_calls _ _ _ _ _ _ _ _ _ _ C slot _ ((HR.out.below HB1.out).below hS)).mono ?_
    rw [← HO.out]
    rintro e w2 ⟨rfl, hb2⟩
    refine hK.out _ _ (Below.trans hS (hb2.mono hS.size)) (fun hS2 => ?_)
    clear hK K
    refine pure_ (i := 13) (N := some 45) (v := ?_) (a' := ?_) #[true, true, true, true, true, true, true, true, true, true, true, true, true, true, false, false] rfl rfl (by kernel_rfl) (fun _ _ _ h => by cases h.1) (Or.inl ⟨by rfl, ?_⟩) ?_ ?_
    rotate_left
    · intro w'
      go_simp
      with_reducible rfl
    rotate_left
    · simp only [Act.put, List.setIfInBounds_toArray, List.set_cons_zero, List.set_cons_succ]
      rfl
    refine last_ (i := 14) (N := none) #[true, true, true, true, true, true, true, true, true, true, true, true, true, true, true, false] rfl rfl (by kernel_rfl) (by simp) (fun K hK => ?_)
    have t0 := hS2.cell z0
    have t1 := hS2.cell z1
    have t2 := hS2.cell z2
    have tf0 := blk_frozen ((hS2.block _ hlt1).trans HZ1.out) 0
    have tf1 := blk_frozen ((hS2.block _ hlt1).trans HZ1.out) 1
    have tf2 := blk_frozen ((hS2.block _ hlt1).trans HZ1.out) 2
    go_simp
    refine hK.out _ _ ?_
    clear hK K
    refine pure_ (i := 15) (N := some 9) (v := ?_) (a' := ?_) #[true, true, true, true, true, true, true, true, true, true, true, true, true, true, true, true] rfl rfl (by kernel_rfl) (fun _ _ _ h => by cases h.1) (Or.inl ⟨by rfl, ?_⟩) ?_ ?_
    rotate_left
    · intro w'
      go_simp
      with_reducible rfl
    rotate_left
    · simp only [Act.put, List.setIfInBounds_toArray, List.set_cons_zero, List.set_cons_succ]
      rfl
    refine done_ (by kernel_rfl) ?_
    exact ⟨rfl, (), by simp only [putAll, Act.put, List.setIfInBounds_toArray, List.set_cons_zero, List.set_cons_succ], (((HB1.out.trans (hS2.mono HB1.out.size)).setCell (p := ⟨w.heap.size + 1, 0, none⟩) (by simp) _).setCell (p := ⟨w.heap.size + 1, 1, none⟩) (by simp) _).setCell (p := ⟨w.heap.size + 1, 2, none⟩) (by simp) _, by go_simp, by go_simp, by go_simp⟩
  rintro - W3 ⟨hb3, y0, y1, y2⟩
  simp only [putAll, Act.put, List.setIfInBounds_toArray, List.set_cons_zero, List.set_cons_succ]
  have HB3 := Lib.hid hb3
  clear hb3 g0 g1 g2 g3 g4 g5 g6 g7 g8 g9 g10 g11 z0 z1 z2 zf0 zf1 zf2
  go_wp2
  refine bodyPost_ret (v := .tuple #[.agg #[.int .i64 o, .int .i64 (slot * length - offset + C.f4), .int .i64 (slot * length - offset + length - C.f4)], .int .i64 0]) (by simp [results, Try.f12, go_sem, y0, y1, y2]) rfl ?_
  exact ⟨plan_ret hres.out, HB3.out⟩
end Go.Proofs.Ytloibbfihkfeeaa
