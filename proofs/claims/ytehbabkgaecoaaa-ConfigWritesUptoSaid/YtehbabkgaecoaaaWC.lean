/- The document's Encode. -/
import Derived.Test.YtehbabkgaecoaaaWB
namespace Go.Proofs.Ytehbabkgaecoaaa
set_option linter.unusedVariables false
set_option linter.unusedSimpArgs false
open Go.RowKit Go.Shelf Go.Proofs.YtehbabkgaecoaaaW.PrintWords Go.Proofs.YtehbabkgaecoaaaW.PrintLast

/-- What the writer has written: the head, and numbers. -/
structure WSt (V : World) (O : Nat) (v : Value) (L : List Int) (g : Bool) (W : World) : Prop where
  st : OSt V O v (([82, 79, 84, 65] : List Int) ++ putsN L) (g && L.all inN) W
theorem blk_at2 (W : World) (o : Obj) {n : Nat} (h : W.heap.size = n) : (W.alloc o).heap[n]? = some o := by subst h; exact heap_alloc_new W o
theorem puts_app (L M : List Int) (H : List Int) : H ++ putsN L ++ putsN M = H ++ putsN (L ++ M) := by
  unfold putsN
  rw [List.flatMap_append, List.append_assoc]
theorem WSt.below {V : World} {O : Nat} {v : Value} {L : List Int} {g : Bool} {W W' : World} (h : WSt V O v L g W) (hb : Below W.heap.size W W') : WSt V O v L g W' := ⟨h.st.below hb⟩
theorem WSt.num {V W : World} {O : Nat} {v : Value} {L : List Int} {g : Bool} (h : WSt V O v L g W) (xs : List Int) (A : Option Addr) (c : Nat) (hx : RowX V W A xs) (hl : L.length + xs.length + 3 ≤ 17592186044400) :
    Calls Try.prog 45 #[.pointer (some ⟨O, 0, none⟩), .slice A xs.length c] W fun e W' => e = .returned (.tuple #[]) ∧ ∃ v', WSt V O v' (L ++ xs) g W' := by
  refine (onum_calls xs A c h.st hx (by have := putsN_len L; rw [List.length_append]; simp only [List.length_cons, List.length_nil]; omega)).mono ?_
  rintro e W' ⟨he, v', hs, -⟩
  rw [puts_app, Bool.and_assoc, ← List.all_append] at hs
  exact ⟨he, v', ⟨hs⟩⟩
theorem WSt.lead {V W : World} {O : Nat} {v : Value} {L : List Int} {g : Bool} (h : WSt V O v L g W) (n : Int) (hl : L.length + 3 ≤ 17592186044400) :
    Calls Try.prog 47 #[.pointer (some ⟨O, 0, none⟩), .int .i64 n] W fun e W' => e = .returned (.tuple #[]) ∧ ∃ v', WSt V O v' (L ++ [n]) (g && decide (n ≤ 65535)) W' := by
  refine (olead_calls n h.st (by have := putsN_len L; rw [List.length_append]; simp only [List.length_cons, List.length_nil]; omega)).mono ?_
  rintro e W' ⟨he, v', hs, -⟩
  have eb : (g && L.all inN && decide (n ≤ 65535) && inN n) = (g && decide (n ≤ 65535) && (L ++ [n]).all inN) := by
    rw [List.all_append]
    cases g <;> cases L.all inN <;> cases decide (n ≤ 65535) <;> simp
  rw [puts_app, eb] at hs
  exact ⟨he, v', ⟨hs⟩⟩
theorem WSt.list {V W : World} {O : Nat} {v : Value} {L : List Int} {g : Bool} (h : WSt V O v L g W) (xs : List Int) (A : Option Addr) (c : Nat) (hx : RowX V W A xs) (hl : L.length + xs.length + 4 ≤ 17592186044400) :
    Calls Try.prog 46 #[.pointer (some ⟨O, 0, none⟩), .slice A xs.length c] W fun e W' => e = .returned (.tuple #[]) ∧ ∃ v', WSt V O v' (L ++ liN xs) (g && decide ((xs.length : Int) ≤ 65535)) W' := by
  refine (olist_calls xs A c h.st hx (by have := putsN_len L; rw [List.length_append]; simp only [List.length_cons, List.length_nil]; omega)).mono ?_
  rintro e W' ⟨he, v', hs, -⟩
  have eb : (g && L.all inN && decide ((xs.length : Int) ≤ 65535) && inN xs.length && xs.all inN) = (g && decide ((xs.length : Int) ≤ 65535) && (L ++ liN xs).all inN) := by
    rw [List.all_append, liN, List.all_cons]
    cases g <;> cases L.all inN <;> cases decide ((xs.length : Int) ≤ 65535) <;> simp
  rw [puts_app, puts_app, eb] at hs
  exact ⟨he, v', ⟨hs⟩⟩
theorem puts_ok {L : List Int} (h : L.all inN = true) : putsN L = L.flatMap encN := by
  unfold putsN
  induction L with
  | nil => rfl
  | cons x L ih =>
    rw [List.all_cons, Bool.and_eq_true] at h
    rw [List.flatMap_cons, List.flatMap_cons, ih h.2, putN, if_pos h.1]
set_option maxRecDepth 100000 in
set_option maxHeartbeats 32000000 in
theorem rencode_calls (A1 A8 A9 A10 A11 : Option Addr) (c1 c8 c9 c10 c11 : Nat) (C : S29) (w : World) (h : CfgIn w C A1 A8 A9 A10 A11 c1 c8 c9 c10 c11) (hT : (cfgNums C).length ≤ 17592186044000) :
    Calls Try.prog 18 #[.agg #[.int .i64 C.f0, .slice A1 C.f1.length c1, .int .i64 C.f2, .int .i64 C.f3, .int .i64 C.f4, .int .i64 C.f5, .int .i64 C.f6, .int .i64 C.f7, .slice A8 C.f8.length c8, .slice A9 C.f9.length c9, .slice A10 C.f10.length c10, .slice A11 C.f11.length c11]] w fun e w' => ∃ v, e = .returned (.tuple #[v, .int .i64 (encS C).2]) ∧ Kd.R kU 5 w' w.heap.size (fun _ => True) v (encS C).1 ∧ Below w.heap.size w w' := by
  have HT := Lib.hid hT
  obtain ⟨l1, l8, l9, l10, l11⟩ := h.len
  have HBV := Lib.hid (show Below w.heap.size w (w.alloc (Obj.cells #[.int .i64 C.f0, .slice A1 C.f1.length c1, .int .i64 C.f2, .int .i64 C.f3, .int .i64 C.f4, .int .i64 C.f5, .int .i64 C.f6, .int .i64 C.f7, .slice A8 C.f8.length c8, .slice A9 C.f9.length c9, .slice A10 C.f10.length c10, .slice A11 C.f11.length c11] 29)) from (Below.refl _ _).alloc (Nat.le_refl _) _)
  have HR := Lib.hid (h.below HBV.out)
  have HC := Lib.hid (blk_new w (o := (Obj.cells #[.int .i64 C.f0, .slice A1 C.f1.length c1, .int .i64 C.f2, .int .i64 C.f3, .int .i64 C.f4, .int .i64 C.f5, .int .i64 C.f6, .int .i64 C.f7, .slice A8 C.f8.length c8, .slice A9 C.f9.length c9, .slice A10 C.f10.length c10, .slice A11 C.f11.length c11] 29)))
  have HVZ := Lib.hid (show (w.alloc (Obj.cells #[.int .i64 C.f0, .slice A1 C.f1.length c1, .int .i64 C.f2, .int .i64 C.f3, .int .i64 C.f4, .int .i64 C.f5, .int .i64 C.f6, .int .i64 C.f7, .slice A8 C.f8.length c8, .slice A9 C.f9.length c9, .slice A10 C.f10.length c10, .slice A11 C.f11.length c11] 29)).heap.size = w.heap.size + 1 from World.size_alloc _ _)
  clear h hT
  have hcv := Lib.run_convert_bytes_const (P := Try.prog) (w.alloc (Obj.cells #[.int .i64 C.f0, .slice A1 C.f1.length c1, .int .i64 C.f2, .int .i64 C.f3, .int .i64 C.f4, .int .i64 C.f5, .int .i64 C.f6, .int .i64 C.f7, .slice A8 C.f8.length c8, .slice A9 C.f9.length c9, .slice A10 C.f10.length c10, .slice A11 C.f11.length c11] 29)) 22 5 #[.int .u8 82, .int .u8 79, .int .u8 84, .int .u8 65] 4 4 rfl rfl
  rw [HVZ.out] at hcv
  have HS0 := Lib.hid (show WSt (w.alloc (Obj.cells #[.int .i64 C.f0, .slice A1 C.f1.length c1, .int .i64 C.f2, .int .i64 C.f3, .int .i64 C.f4, .int .i64 C.f5, .int .i64 C.f6, .int .i64 C.f7, .slice A8 C.f8.length c8, .slice A9 C.f9.length c9, .slice A10 C.f10.length c10, .slice A11 C.f11.length c11] 29)) (w.heap.size + 1 + 1) (.slice (some ⟨w.heap.size + 1, 0, none⟩) 4 4) [] true (((w.alloc (Obj.cells #[.int .i64 C.f0, .slice A1 C.f1.length c1, .int .i64 C.f2, .int .i64 C.f3, .int .i64 C.f4, .int .i64 C.f5, .int .i64 C.f6, .int .i64 C.f7, .slice A8 C.f8.length c8, .slice A9 C.f9.length c9, .slice A10 C.f10.length c10, .slice A11 C.f11.length c11] 29)).alloc (Obj.cells #[.int .u8 82, .int .u8 79, .int .u8 84, .int .u8 65] 5 (4, 5))).alloc (Obj.cells #[.slice (some ⟨w.heap.size + 1, 0, none⟩) 4 4, .bool true] 77 (0, 0))) from by
    refine ⟨⟨blk_at2 _ _ (by simp), .inl ⟨by rw [HVZ.out], by simp [putsN], by rw [HVZ.out]; exact blk_alloc (blk_at2 _ _ HVZ.out) _⟩, ?_, by rw [HVZ.out]; omega⟩⟩
    exact ((Below.refl _ _).alloc (Nat.le_refl _) _).alloc (by simp) _)
  go_enter Try.func18, Try.ntmps18
  obtain ⟨k0, k1, k2, k3, k4, k5, k6, k7, k8, k9, k10, k11⟩ := cfg_cells (blk_keep HS0.out.st.bel HC.out)
  go_wp2_with fail
  generalize hV : w.alloc (Obj.cells #[.int .i64 C.f0, .slice A1 C.f1.length c1, .int .i64 C.f2, .int .i64 C.f3, .int .i64 C.f4, .int .i64 C.f5, .int .i64 C.f6, .int .i64 C.f7, .slice A8 C.f8.length c8, .slice A9 C.f9.length c9, .slice A10 C.f10.length c10, .slice A11 C.f11.length c11] 29) = V at *
  refine ((HS0.out.below ((Below.refl _ _).alloc (Nat.le_refl _) _)).num [C.f0, C.f2, C.f3, C.f4, C.f5, C.f6, C.f7] _ 7 (.inr ⟨_, rfl, blk_at2 _ (Obj.cells #[.int .i64 C.f0, .int .i64 C.f2, .int .i64 C.f3, .int .i64 C.f4, .int .i64 C.f5, .int .i64 C.f6, .int .i64 C.f7] 3) (by simp [HVZ.out])⟩) (by have h := HT.out; rw [cn_len] at h; simp only [List.length_append, List.length_cons, List.length_nil, liN]; omega)).mono ?_
  rintro e W1 ⟨rfl, v1, h1⟩
  rw [List.nil_append] at h1
  have H1 := Lib.hid h1
  clear h1 HS0 hcv k0 k1 k2 k3 k4 k5 k6 k7 k8 k9 k10 k11 hV
  have k1 := (cfg_cells (blk_keep H1.out.st.bel HC.out)).2.1
  go_wp2_with fail
  refine (H1.out.list C.f1 A1 c1 (.inl HR.out.1.2) (by have h := HT.out; rw [cn_len] at h; simp only [List.length_append, List.length_cons, List.length_nil, liN]; omega)).mono ?_
  rintro e W2 ⟨rfl, v2, h2⟩
  have H2 := Lib.hid h2
  clear h2 H1 k1
  have k8 := (cfg_cells (blk_keep H2.out.st.bel HC.out)).2.2.2.2.2.2.2.2.1
  go_wp2_with fail
  refine (H2.out.lead (C.f8.length : Int) (by have h := HT.out; rw [cn_len] at h; simp only [List.length_append, List.length_cons, List.length_nil, liN]; omega)).mono ?_
  rintro e W3 ⟨rfl, v3, h3⟩
  have H3 := Lib.hid h3
  clear h3 H2 k8
  go_wp2_with fail
  go_loopw [5] (fun i wr => ∃ (k : Nat) (v : Value), k ≤ C.f8.length ∧ i = .int .i64 k ∧ Hid (WSt V (w.heap.size + 1 + 1) v ([C.f0, C.f2, C.f3, C.f4, C.f5, C.f6, C.f7] ++ liN C.f1 ++ [(C.f8.length : Int)] ++ (C.f8.take k).flatMap prN) (true && decide ((C.f1.length : Int) ≤ 65535) && decide ((C.f8.length : Int) ≤ 65535)) wr)) (fun i _ => C.f8.length - (intOf i).toNat)
  case atStart => exact ⟨0, v3, by omega, rfl, Lib.hid (by simpa using H3.out)⟩
  case round =>
    clear H3
    obtain ⟨k, v, hk, rfl, HS⟩ := hrel
    by_cases hlt : k < C.f8.length
    · obtain ⟨ad, p, e8, p0, p1, p2, HP⟩ := at_P (Kd.C_below HR.out.2.1.2 HS.out.st.bel) k hlt
      cases e8
      have k8 := (cfg_cells (blk_keep HS.out.st.bel HC.out)).2.2.2.2.2.2.2.2.1
      go_wp2_with fail
      have HCE := Lib.hid (blk_keep HS.out.st.bel HC.out)
      have hF0 : ∀ W', Below wr.heap.size wr W' → Ko [((⟨w.heap.size, 8, none⟩ : Addr), (.slice (some ad) C.f8.length c8 : Value)), ((ad.add (k * 3) : Addr), (.int .i64 p.f0 : Value)), ((⟨(ad.add (k * 3)).block, (ad.add (k * 3)).off + 1, none⟩ : Addr), (.int .i64 p.f1 : Value)), ((⟨(ad.add (k * 3)).block, (ad.add (k * 3)).off + 2, none⟩ : Addr), (.int .i64 p.f2 : Value))] W' := fun W' hb => ⟨fun x hx => by
        simp only [List.mem_cons, List.not_mem_nil, or_false] at hx
        rcases hx with rfl | rfl | rfl | rfl
        · exact pw_cell_below hb (k8)
        · exact pw_cell_below hb (p0)
        · exact pw_cell_below hb (p1)
        · exact pw_cell_below hb (p2)⟩
      refine region_fl (S := Ko [((⟨w.heap.size, 8, none⟩ : Addr), (.slice (some ad) C.f8.length c8 : Value)), ((ad.add (k * 3) : Addr), (.int .i64 p.f0 : Value)), ((⟨(ad.add (k * 3)).block, (ad.add (k * 3)).off + 1, none⟩ : Addr), (.int .i64 p.f1 : Value)), ((⟨(ad.add (k * 3)).block, (ad.add (k * 3)).off + 2, none⟩ : Addr), (.int .i64 p.f2 : Value))]) (N := 20) (σ := Nat) (ds := [19]) (fun z => [(43, .pointer (some ⟨w.heap.size, 8, none⟩)), (44, .slice (some ad) C.f8.length c8), (45, .int .i64 k), (46, .pointer (some (ad.add (k * 3)))), (47, .pointer (some (ad.add (k * 3)))), (48, .int .i64 p.f0), (49, .pointer (some ⟨w.heap.size, 8, none⟩)), (50, .slice (some ad) C.f8.length c8), (51, .int .i64 k), (52, .pointer (some (ad.add (k * 3)))), (53, .pointer (some ⟨(ad.add (k * 3)).block, (ad.add (k * 3)).off + 1, none⟩)), (54, .int .i64 p.f1), (55, .pointer (some ⟨w.heap.size, 8, none⟩)), (56, .slice (some ad) C.f8.length c8), (57, .int .i64 k), (58, .pointer (some (ad.add (k * 3)))), (59, .pointer (some ⟨(ad.add (k * 3)).block, (ad.add (k * 3)).off + 2, none⟩)), (60, .int .i64 p.f2), (61, .slice (some ⟨z, 0, none⟩) 3 3), (62, .tuple #[])]) (fun z W' => ∃ v', WSt V (w.heap.size + 1 + 1) v' ([C.f0, C.f2, C.f3, C.f4, C.f5, C.f6, C.f7] ++ liN C.f1 ++ [(C.f8.length : Int)] ++ (C.f8.take k).flatMap prN ++ [p.f0, p.f1, p.f2]) (true && decide ((C.f1.length : Int) ≤ 65535) && decide ((C.f8.length : Int) ≤ 65535)) W') #[false, false, false, false, false, false, false, false, false, false, false, false, false, false, false, false, false, false, false, false] (hF0 _ (Below.refl _ _).drew) (by kernel_rfl) rfl rfl ?_ ?_
      · have hS := hF0 _ (Below.refl _ _).drew
        have HSd := Lib.hid (HS.out.below (Below.refl _ _).drew)
        have HBd := Lib.hid (show Below wr.heap.size wr wr.drew from (Below.refl _ _).drew)
        have m0 : (((⟨w.heap.size, 8, none⟩ : Addr), (.slice (some ad) C.f8.length c8 : Value)) : Addr × Value) ∈ [((⟨w.heap.size, 8, none⟩ : Addr), (.slice (some ad) C.f8.length c8 : Value)), ((ad.add (k * 3) : Addr), (.int .i64 p.f0 : Value)), ((⟨(ad.add (k * 3)).block, (ad.add (k * 3)).off + 1, none⟩ : Addr), (.int .i64 p.f1 : Value)), ((⟨(ad.add (k * 3)).block, (ad.add (k * 3)).off + 2, none⟩ : Addr), (.int .i64 p.f2 : Value))] := by simp
        have m1 : (((ad.add (k * 3) : Addr), (.int .i64 p.f0 : Value)) : Addr × Value) ∈ [((⟨w.heap.size, 8, none⟩ : Addr), (.slice (some ad) C.f8.length c8 : Value)), ((ad.add (k * 3) : Addr), (.int .i64 p.f0 : Value)), ((⟨(ad.add (k * 3)).block, (ad.add (k * 3)).off + 1, none⟩ : Addr), (.int .i64 p.f1 : Value)), ((⟨(ad.add (k * 3)).block, (ad.add (k * 3)).off + 2, none⟩ : Addr), (.int .i64 p.f2 : Value))] := by simp
        have m2 : (((⟨(ad.add (k * 3)).block, (ad.add (k * 3)).off + 1, none⟩ : Addr), (.int .i64 p.f1 : Value)) : Addr × Value) ∈ [((⟨w.heap.size, 8, none⟩ : Addr), (.slice (some ad) C.f8.length c8 : Value)), ((ad.add (k * 3) : Addr), (.int .i64 p.f0 : Value)), ((⟨(ad.add (k * 3)).block, (ad.add (k * 3)).off + 1, none⟩ : Addr), (.int .i64 p.f1 : Value)), ((⟨(ad.add (k * 3)).block, (ad.add (k * 3)).off + 2, none⟩ : Addr), (.int .i64 p.f2 : Value))] := by simp
        have m3 : (((⟨(ad.add (k * 3)).block, (ad.add (k * 3)).off + 2, none⟩ : Addr), (.int .i64 p.f2 : Value)) : Addr × Value) ∈ [((⟨w.heap.size, 8, none⟩ : Addr), (.slice (some ad) C.f8.length c8 : Value)), ((ad.add (k * 3) : Addr), (.int .i64 p.f0 : Value)), ((⟨(ad.add (k * 3)).block, (ad.add (k * 3)).off + 1, none⟩ : Addr), (.int .i64 p.f1 : Value)), ((⟨(ad.add (k * 3)).block, (ad.add (k * 3)).off + 2, none⟩ : Addr), (.int .i64 p.f2 : Value))] := by simp
        generalize wr.drew = Wd at hS HSd HBd ⊢
        refine pure_ (i := 0) (N := some 43) (v := ?_) (a' := ?_) #[true, false, false, false, false, false, false, false, false, false, false, false, false, false, false, false, false, false, false, false] rfl rfl (by kernel_rfl) (fun _ _ _ h => by cases h.1) (Or.inl ⟨by rfl, ?_⟩) ?_ ?_
        rotate_left
        · intro w'
          go_simp
          with_reducible rfl
        rotate_left
        · simp only [Act.put, List.setIfInBounds_toArray, List.set_cons_zero, List.set_cons_succ]
          rfl
        refine take_ (i := 1) (N := some 44) (v := ?_) (a' := ?_) #[true, true, false, false, false, false, false, false, false, false, false, false, false, false, false, false, false, false, false, false] rfl rfl (by kernel_rfl) (fun _ _ _ h => by cases h.1) (Or.inl ⟨by rfl, ?_⟩) hS ?_ ?_
        rotate_left
        · intro w' hb
          have s0 := hb.cell m0
          go_simp
          with_reducible rfl
        rotate_left
        · simp only [Act.put, List.setIfInBounds_toArray, List.set_cons_zero, List.set_cons_succ]
          rfl
        refine pure_ (i := 2) (N := some 45) (v := ?_) (a' := ?_) #[true, true, true, false, false, false, false, false, false, false, false, false, false, false, false, false, false, false, false, false] rfl rfl (by kernel_rfl) (fun _ _ _ h => by cases h.1) (Or.inl ⟨by rfl, ?_⟩) ?_ ?_
        rotate_left
        · intro w'
          go_simp
          with_reducible rfl
        rotate_left
        · simp only [Act.put, List.setIfInBounds_toArray, List.set_cons_zero, List.set_cons_succ]
          rfl
        refine pure_ (i := 3) (N := some 46) (v := ?_) (a' := ?_) #[true, true, true, true, false, false, false, false, false, false, false, false, false, false, false, false, false, false, false, false] rfl rfl (by kernel_rfl) (fun _ _ _ h => by cases h.1) (Or.inl ⟨by rfl, ?_⟩) ?_ ?_
        rotate_left
        · intro w'
          go_simp
          with_reducible rfl
        rotate_left
        · simp only [Act.put, List.setIfInBounds_toArray, List.set_cons_zero, List.set_cons_succ]
          rfl
        refine pure_ (i := 4) (N := some 47) (v := ?_) (a' := ?_) #[true, true, true, true, true, false, false, false, false, false, false, false, false, false, false, false, false, false, false, false] rfl rfl (by kernel_rfl) (fun _ _ _ h => by cases h.1) (Or.inl ⟨by rfl, ?_⟩) ?_ ?_
        rotate_left
        · intro w'
          go_simp
          with_reducible rfl
        rotate_left
        · simp only [Act.put, List.setIfInBounds_toArray, List.set_cons_zero, List.set_cons_succ]
          rfl
        refine take_ (i := 5) (N := some 48) (v := ?_) (a' := ?_) #[true, true, true, true, true, true, false, false, false, false, false, false, false, false, false, false, false, false, false, false] rfl rfl (by kernel_rfl) (fun _ _ _ h => by cases h.1) (Or.inl ⟨by rfl, ?_⟩) hS ?_ ?_
        rotate_left
        · intro w' hb
          have s0 := hb.cell m1
          go_simp
          with_reducible rfl
        rotate_left
        · simp only [Act.put, List.setIfInBounds_toArray, List.set_cons_zero, List.set_cons_succ]
          rfl
        refine pure_ (i := 6) (N := some 49) (v := ?_) (a' := ?_) #[true, true, true, true, true, true, true, false, false, false, false, false, false, false, false, false, false, false, false, false] rfl rfl (by kernel_rfl) (fun _ _ _ h => by cases h.1) (Or.inl ⟨by rfl, ?_⟩) ?_ ?_
        rotate_left
        · intro w'
          go_simp
          with_reducible rfl
        rotate_left
        · simp only [Act.put, List.setIfInBounds_toArray, List.set_cons_zero, List.set_cons_succ]
          rfl
        refine take_ (i := 7) (N := some 50) (v := ?_) (a' := ?_) #[true, true, true, true, true, true, true, true, false, false, false, false, false, false, false, false, false, false, false, false] rfl rfl (by kernel_rfl) (fun _ _ _ h => by cases h.1) (Or.inl ⟨by rfl, ?_⟩) hS ?_ ?_
        rotate_left
        · intro w' hb
          have s0 := hb.cell m0
          go_simp
          with_reducible rfl
        rotate_left
        · simp only [Act.put, List.setIfInBounds_toArray, List.set_cons_zero, List.set_cons_succ]
          rfl
        refine pure_ (i := 8) (N := some 51) (v := ?_) (a' := ?_) #[true, true, true, true, true, true, true, true, true, false, false, false, false, false, false, false, false, false, false, false] rfl rfl (by kernel_rfl) (fun _ _ _ h => by cases h.1) (Or.inl ⟨by rfl, ?_⟩) ?_ ?_
        rotate_left
        · intro w'
          go_simp
          with_reducible rfl
        rotate_left
        · simp only [Act.put, List.setIfInBounds_toArray, List.set_cons_zero, List.set_cons_succ]
          rfl
        refine pure_ (i := 9) (N := some 52) (v := ?_) (a' := ?_) #[true, true, true, true, true, true, true, true, true, true, false, false, false, false, false, false, false, false, false, false] rfl rfl (by kernel_rfl) (fun _ _ _ h => by cases h.1) (Or.inl ⟨by rfl, ?_⟩) ?_ ?_
        rotate_left
        · intro w'
          go_simp
          with_reducible rfl
        rotate_left
        · simp only [Act.put, List.setIfInBounds_toArray, List.set_cons_zero, List.set_cons_succ]
          rfl
        refine pure_ (i := 10) (N := some 53) (v := ?_) (a' := ?_) #[true, true, true, true, true, true, true, true, true, true, true, false, false, false, false, false, false, false, false, false] rfl rfl (by kernel_rfl) (fun _ _ _ h => by cases h.1) (Or.inl ⟨by rfl, ?_⟩) ?_ ?_
        rotate_left
        · intro w'
          go_simp
          with_reducible rfl
        rotate_left
        · simp only [Act.put, List.setIfInBounds_toArray, List.set_cons_zero, List.set_cons_succ]
          rfl
        refine take_ (i := 11) (N := some 54) (v := ?_) (a' := ?_) #[true, true, true, true, true, true, true, true, true, true, true, true, false, false, false, false, false, false, false, false] rfl rfl (by kernel_rfl) (fun _ _ _ h => by cases h.1) (Or.inl ⟨by rfl, ?_⟩) hS ?_ ?_
        rotate_left
        · intro w' hb
          have s0 := hb.cell m2
          go_simp
          with_reducible rfl
        rotate_left
        · simp only [Act.put, List.setIfInBounds_toArray, List.set_cons_zero, List.set_cons_succ]
          rfl
        refine pure_ (i := 12) (N := some 55) (v := ?_) (a' := ?_) #[true, true, true, true, true, true, true, true, true, true, true, true, true, false, false, false, false, false, false, false] rfl rfl (by kernel_rfl) (fun _ _ _ h => by cases h.1) (Or.inl ⟨by rfl, ?_⟩) ?_ ?_
        rotate_left
        · intro w'
          go_simp
          with_reducible rfl
        rotate_left
        · simp only [Act.put, List.setIfInBounds_toArray, List.set_cons_zero, List.set_cons_succ]
          rfl
        refine take_ (i := 13) (N := some 56) (v := ?_) (a' := ?_) #[true, true, true, true, true, true, true, true, true, true, true, true, true, true, false, false, false, false, false, false] rfl rfl (by kernel_rfl) (fun _ _ _ h => by cases h.1) (Or.inl ⟨by rfl, ?_⟩) hS ?_ ?_
        rotate_left
        · intro w' hb
          have s0 := hb.cell m0
          go_simp
          with_reducible rfl
        rotate_left
        · simp only [Act.put, List.setIfInBounds_toArray, List.set_cons_zero, List.set_cons_succ]
          rfl
        refine pure_ (i := 14) (N := some 57) (v := ?_) (a' := ?_) #[true, true, true, true, true, true, true, true, true, true, true, true, true, true, true, false, false, false, false, false] rfl rfl (by kernel_rfl) (fun _ _ _ h => by cases h.1) (Or.inl ⟨by rfl, ?_⟩) ?_ ?_
        rotate_left
        · intro w'
          go_simp
          with_reducible rfl
        rotate_left
        · simp only [Act.put, List.setIfInBounds_toArray, List.set_cons_zero, List.set_cons_succ]
          rfl
        refine pure_ (i := 15) (N := some 58) (v := ?_) (a' := ?_) #[true, true, true, true, true, true, true, true, true, true, true, true, true, true, true, true, false, false, false, false] rfl rfl (by kernel_rfl) (fun _ _ _ h => by cases h.1) (Or.inl ⟨by rfl, ?_⟩) ?_ ?_
        rotate_left
        · intro w'
          go_simp
          with_reducible rfl
        rotate_left
        · simp only [Act.put, List.setIfInBounds_toArray, List.set_cons_zero, List.set_cons_succ]
          rfl
        refine pure_ (i := 16) (N := some 59) (v := ?_) (a' := ?_) #[true, true, true, true, true, true, true, true, true, true, true, true, true, true, true, true, true, false, false, false] rfl rfl (by kernel_rfl) (fun _ _ _ h => by cases h.1) (Or.inl ⟨by rfl, ?_⟩) ?_ ?_
        rotate_left
        · intro w'
          go_simp
          with_reducible rfl
        rotate_left
        · simp only [Act.put, List.setIfInBounds_toArray, List.set_cons_zero, List.set_cons_succ]
          rfl
        refine take_ (i := 17) (N := some 60) (v := ?_) (a' := ?_) #[true, true, true, true, true, true, true, true, true, true, true, true, true, true, true, true, true, true, false, false] rfl rfl (by kernel_rfl) (fun _ _ _ h => by cases h.1) (Or.inl ⟨by rfl, ?_⟩) hS ?_ ?_
        rotate_left
        · intro w' hb
          have s0 := hb.cell m3
          go_simp
          with_reducible rfl
        rotate_left
        · simp only [Act.put, List.setIfInBounds_toArray, List.set_cons_zero, List.set_cons_succ]
          rfl
        refine one_ (i := 18) (N := some 61) #[true, true, true, true, true, true, true, true, true, true, true, true, true, true, true, true, true, true, true, false] rfl rfl (by kernel_rfl) (by simp) (fun K hK => ?_)
        go_simp
        have hSa := hF0 _ (HBd.out.alloc HBd.out.size (Obj.cells #[.int .i64 p.f0, .int .i64 p.f1, .int .i64 p.f2] 3))
        refine hK.out _ _ hSa (fun _ => ?_)
        clear hK K
        refine last_ (i := 19) (N := some 62) #[true, true, true, true, true, true, true, true, true, true, true, true, true, true, true, true, true, true, true, true] rfl rfl (by kernel_rfl) (by simp) (fun K hK => ?_)
        go_simp
        refine ((HSd.out.below ((Below.refl _ _).alloc (Nat.le_refl _) _)).num [p.f0, p.f1, p.f2] _ 3 (.inr ⟨_, rfl, blk_new Wd (Obj.cells #[.int .i64 p.f0, .int .i64 p.f1, .int .i64 p.f2] 3)⟩) (by have h := HT.out; rw [cn_len] at h; have h2 := fm_le prN HP.out; simp only [List.length_append, List.length_cons, List.length_nil, liN, prN] at h2 ⊢; omega)).mono ?_
        rintro e u ⟨rfl, v', hs⟩
        refine hK.out _ _ ?_
        clear hK K
        refine done_ (by kernel_rfl) ?_
        exact ⟨rfl, Wd.heap.size, by simp only [putAll, Act.put, List.setIfInBounds_toArray, List.set_cons_zero, List.set_cons_succ], v', hs⟩
      · rintro z u ⟨v', hs⟩
        simp only [putAll, Act.put, List.setIfInBounds_toArray, List.set_cons_zero, List.set_cons_succ]
        have H5 := Lib.hid hs
        clear hs p0 p1 p2 k8 hF0 HCE
        go_wp2_with fail
        go_roundw
        case rel => exact ⟨k + 1, v', by omega, by go_num, Lib.hid (by rw [List.take_add_one, HP.out, List.flatMap_append, ← List.append_assoc]; simpa [prN] using H5.out)⟩
        case measure => simp [intOf]; omega
    · have hfull : C.f8.take k = C.f8 := List.take_of_length_le (by omega)
      rw [hfull] at HS
      have H4 := Lib.hid HS.out
      have k9 := (cfg_cells (blk_keep HS.out.st.bel HC.out)).2.2.2.2.2.2.2.2.2.1
      have j8 := (cfg_cells (blk_keep HS.out.st.bel HC.out)).2.2.2.2.2.2.2.2.1
      go_wp2_with fail
      refine (H4.out.lead (C.f9.length : Int) (by have h := HT.out; rw [cn_len] at h; simp only [List.length_append, List.length_cons, List.length_nil, liN]; omega)).mono ?_
      rintro e W4 ⟨rfl, v4, hs⟩
      have H6 := Lib.hid hs
      clear hs H4 HS k9 j8 hk hlt hfull
      go_wp2_with fail
      go_loopw [6] (fun i wr => ∃ (k : Nat) (v : Value), k ≤ C.f9.length ∧ i = .int .i64 k ∧ Hid (WSt V (w.heap.size + 1 + 1) v ([C.f0, C.f2, C.f3, C.f4, C.f5, C.f6, C.f7] ++ liN C.f1 ++ [(C.f8.length : Int)] ++ C.f8.flatMap prN ++ [(C.f9.length : Int)] ++ (C.f9.take k).flatMap liN) (true && decide ((C.f1.length : Int) ≤ 65535) && decide ((C.f8.length : Int) ≤ 65535) && decide ((C.f9.length : Int) ≤ 65535) && (C.f9.take k).all (fun l => decide ((l.length : Int) ≤ 65535))) wr)) (fun i _ => C.f9.length - (intOf i).toNat)
      case atStart => exact ⟨0, v4, by omega, rfl, Lib.hid (by simpa using H6.out)⟩
      case round =>
        clear H6
        obtain ⟨k, v, hk, rfl, HS⟩ := hrel
        by_cases hlt : k < C.f9.length
        · obtain ⟨ad, r, Ar, cr, e9, hc0, hrc, HRR, HV⟩ := at_W HR.out.2.2.1.2 k hlt
          cases e9
          have hc := pw_cell_below HS.out.st.bel hc0
          have k9 := (cfg_cells (blk_keep HS.out.st.bel HC.out)).2.2.2.2.2.2.2.2.2.1
          clear hc0
          go_wp2_with fail
          refine (HS.out.list r Ar cr (.inl HRR.out) (by have h := HT.out; rw [cn_len] at h; have h2 := fm_le liN HV.out; simp only [List.length_append, List.length_cons, List.length_nil, liN, liN] at h2 ⊢; omega)).mono ?_
          rintro e W5 ⟨rfl, v5, h5⟩
          have H5 := Lib.hid h5
          clear h5 hc k9
          go_wp2_with fail
          go_roundw
          case rel => exact ⟨k + 1, v5, by omega, by go_num, Lib.hid (by rw [List.take_add_one, HV.out, List.flatMap_append, ← List.append_assoc, List.all_append, ← Bool.and_assoc]; simpa using H5.out)⟩
          case measure => simp [intOf]; omega
        · have hfull : C.f9.take k = C.f9 := List.take_of_length_le (by omega)
          rw [hfull] at HS
          have H5 := Lib.hid HS.out
          have k10 := (cfg_cells (blk_keep HS.out.st.bel HC.out)).2.2.2.2.2.2.2.2.2.2.1
          have j9 := (cfg_cells (blk_keep HS.out.st.bel HC.out)).2.2.2.2.2.2.2.2.2.1
          go_wp2_with fail
          refine (H5.out.lead (C.f10.length : Int) (by have h := HT.out; rw [cn_len] at h; simp only [List.length_append, List.length_cons, List.length_nil, liN]; omega)).mono ?_
          rintro e W6 ⟨rfl, v6, hs⟩
          have H7 := Lib.hid hs
          clear hs H5 HS k10 j9 hk hlt hfull
          go_wp2_with fail
          go_loopw [7] (fun i wr => ∃ (k : Nat) (v : Value), k ≤ C.f10.length ∧ i = .int .i64 k ∧ Hid (WSt V (w.heap.size + 1 + 1) v ([C.f0, C.f2, C.f3, C.f4, C.f5, C.f6, C.f7] ++ liN C.f1 ++ [(C.f8.length : Int)] ++ C.f8.flatMap prN ++ [(C.f9.length : Int)] ++ C.f9.flatMap liN ++ [(C.f10.length : Int)] ++ (C.f10.take k).flatMap poN) (true && decide ((C.f1.length : Int) ≤ 65535) && decide ((C.f8.length : Int) ≤ 65535) && decide ((C.f9.length : Int) ≤ 65535) && C.f9.all (fun l => decide ((l.length : Int) ≤ 65535)) && decide ((C.f10.length : Int) ≤ 65535)) wr)) (fun i _ => C.f10.length - (intOf i).toNat)
          case atStart => exact ⟨0, v6, by omega, rfl, Lib.hid (by simpa using H7.out)⟩
          case round =>
            clear H7
            obtain ⟨k, v, hk, rfl, HS⟩ := hrel
            by_cases hlt : k < C.f10.length
            · obtain ⟨ad, q, e10, q0, q1, q2, q3, q4, q5, HQ⟩ := at_Q (Kd.C_below HR.out.2.2.2.1.2 HS.out.st.bel) k hlt
              cases e10
              have k10 := (cfg_cells (blk_keep HS.out.st.bel HC.out)).2.2.2.2.2.2.2.2.2.2.1
              have HSA := Lib.hid (HS.out.below ((Below.refl _ _).alloc (Nat.le_refl _) (Obj.cells #[.int .i64 q.f0, .int .i64 q.f1, .int .i64 q.f2, .int .i64 q.f3, .int .i64 q.f4, .int .i64 q.f5] 59)))
              go_wp2_with fail
              refine ((HSA.out.below ((Below.refl _ _).alloc (Nat.le_refl _) _)).num [q.f0, q.f1, q.f2, q.f3, q.f4, q.f5] _ 6 (.inr ⟨_, rfl, blk_at2 _ (Obj.cells #[.int .i64 q.f0, .int .i64 q.f1, .int .i64 q.f2, .int .i64 q.f3, .int .i64 q.f4, .int .i64 q.f5] 3) (by simp)⟩) (by have h := HT.out; rw [cn_len] at h; have h2 := fm_le poN HQ.out; simp only [List.length_append, List.length_cons, List.length_nil, liN, poN] at h2 ⊢; omega)).mono ?_
              rintro e W7 ⟨rfl, v7, h7⟩
              have H8 := Lib.hid h7
              clear h7 q0 q1 q2 q3 q4 q5 k10
              go_wp2_with fail
              go_roundw
              case rel => exact ⟨k + 1, v7, by omega, by go_num, Lib.hid (by rw [List.take_add_one, HQ.out, List.flatMap_append, ← List.append_assoc]; simpa [poN] using H8.out)⟩
              case measure => simp [intOf]; omega
            · have hfull : C.f10.take k = C.f10 := List.take_of_length_le (by omega)
              rw [hfull] at HS
              have H8 := Lib.hid HS.out
              have k11 := (cfg_cells (blk_keep HS.out.st.bel HC.out)).2.2.2.2.2.2.2.2.2.2.2
              have j10 := (cfg_cells (blk_keep HS.out.st.bel HC.out)).2.2.2.2.2.2.2.2.2.2.1
              go_wp2_with fail
              refine (H8.out.lead (C.f11.length : Int) (by have h := HT.out; rw [cn_len] at h; simp only [List.length_append, List.length_cons, List.length_nil, liN]; omega)).mono ?_
              rintro e W8 ⟨rfl, v8, hs⟩
              have H9 := Lib.hid hs
              clear hs H8 HS k11 j10 hk hlt hfull
              go_wp2_with fail
              go_loopw [9] (fun i wr => ∃ (k : Nat) (v : Value), k ≤ C.f11.length ∧ i = .int .i64 k ∧ Hid (WSt V (w.heap.size + 1 + 1) v ([C.f0, C.f2, C.f3, C.f4, C.f5, C.f6, C.f7] ++ liN C.f1 ++ [(C.f8.length : Int)] ++ C.f8.flatMap prN ++ [(C.f9.length : Int)] ++ C.f9.flatMap liN ++ [(C.f10.length : Int)] ++ C.f10.flatMap poN ++ [(C.f11.length : Int)] ++ (C.f11.take k).flatMap lkN) (true && decide ((C.f1.length : Int) ≤ 65535) && decide ((C.f8.length : Int) ≤ 65535) && decide ((C.f9.length : Int) ≤ 65535) && C.f9.all (fun l => decide ((l.length : Int) ≤ 65535)) && decide ((C.f10.length : Int) ≤ 65535) && decide ((C.f11.length : Int) ≤ 65535) && (C.f11.take k).all (fun x => decide ((x.f1.length : Int) ≤ 65535))) wr)) (fun i _ => C.f11.length - (intOf i).toNat)
              case atStart => exact ⟨0, v8, by omega, rfl, Lib.hid (by simpa using H9.out)⟩
              case round =>
                clear H9
                obtain ⟨k, v, hk, rfl, HS⟩ := hrel
                by_cases hlt : k < C.f11.length
                · obtain ⟨ad, x, Ax, cx, e11, X0, X1, X2, hcx, HXR, HX⟩ := at_K HR.out.2.2.2.2.2 k hlt
                  cases e11
                  have x0 := pw_cell_below HS.out.st.bel X0
                  have x1 := pw_cell_below HS.out.st.bel X1
                  have x2 := pw_cell_below HS.out.st.bel X2
                  have k11 := (cfg_cells (blk_keep HS.out.st.bel HC.out)).2.2.2.2.2.2.2.2.2.2.2
                  have HX1 := Lib.hid X1
                  clear X0 X1 X2
                  go_wp2_with fail
                  have HCE := Lib.hid (blk_keep HS.out.st.bel HC.out)
                  have hF0 : ∀ W', Below wr.heap.size wr W' → Ko [((⟨w.heap.size, 11, none⟩ : Addr), (.slice (some ad) C.f11.length c11 : Value)), ((ad.add (k * 3) : Addr), (.int .i64 x.f0 : Value)), ((⟨(ad.add (k * 3)).block, (ad.add (k * 3)).off + 2, none⟩ : Addr), (.int .i64 x.f2 : Value))] W' := fun W' hb => ⟨fun x hx => by
                    simp only [List.mem_cons, List.not_mem_nil, or_false] at hx
                    rcases hx with rfl | rfl | rfl
                    · exact pw_cell_below hb (k11)
                    · exact pw_cell_below hb (x0)
                    · exact pw_cell_below hb (x2)⟩
                  refine region_fl (S := Ko [((⟨w.heap.size, 11, none⟩ : Addr), (.slice (some ad) C.f11.length c11 : Value)), ((ad.add (k * 3) : Addr), (.int .i64 x.f0 : Value)), ((⟨(ad.add (k * 3)).block, (ad.add (k * 3)).off + 2, none⟩ : Addr), (.int .i64 x.f2 : Value))]) (N := 14) (σ := Nat) (ds := [13]) (fun z => [(121, .pointer (some ⟨w.heap.size, 11, none⟩)), (122, .slice (some ad) C.f11.length c11), (123, .int .i64 k), (124, .pointer (some (ad.add (k * 3)))), (125, .pointer (some (ad.add (k * 3)))), (126, .int .i64 x.f0), (127, .pointer (some ⟨w.heap.size, 11, none⟩)), (128, .slice (some ad) C.f11.length c11), (129, .int .i64 k), (130, .pointer (some (ad.add (k * 3)))), (131, .pointer (some ⟨(ad.add (k * 3)).block, (ad.add (k * 3)).off + 2, none⟩)), (132, .int .i64 x.f2), (133, .slice (some ⟨z, 0, none⟩) 2 2), (134, .tuple #[])]) (fun z W' => ∃ v', WSt V (w.heap.size + 1 + 1) v' ([C.f0, C.f2, C.f3, C.f4, C.f5, C.f6, C.f7] ++ liN C.f1 ++ [(C.f8.length : Int)] ++ C.f8.flatMap prN ++ [(C.f9.length : Int)] ++ C.f9.flatMap liN ++ [(C.f10.length : Int)] ++ C.f10.flatMap poN ++ [(C.f11.length : Int)] ++ (C.f11.take k).flatMap lkN ++ [x.f0, x.f2]) (true && decide ((C.f1.length : Int) ≤ 65535) && decide ((C.f8.length : Int) ≤ 65535) && decide ((C.f9.length : Int) ≤ 65535) && C.f9.all (fun l => decide ((l.length : Int) ≤ 65535)) && decide ((C.f10.length : Int) ≤ 65535) && decide ((C.f11.length : Int) ≤ 65535) && (C.f11.take k).all (fun x => decide ((x.f1.length : Int) ≤ 65535))) W') #[false, false, false, false, false, false, false, false, false, false, false, false, false, false] (hF0 _ (Below.refl _ _).drew) (by kernel_rfl) rfl rfl ?_ ?_
                  · have hS := hF0 _ (Below.refl _ _).drew
                    have HSd := Lib.hid (HS.out.below (Below.refl _ _).drew)
                    have HBd := Lib.hid (show Below wr.heap.size wr wr.drew from (Below.refl _ _).drew)
                    have m0 : (((⟨w.heap.size, 11, none⟩ : Addr), (.slice (some ad) C.f11.length c11 : Value)) : Addr × Value) ∈ [((⟨w.heap.size, 11, none⟩ : Addr), (.slice (some ad) C.f11.length c11 : Value)), ((ad.add (k * 3) : Addr), (.int .i64 x.f0 : Value)), ((⟨(ad.add (k * 3)).block, (ad.add (k * 3)).off + 2, none⟩ : Addr), (.int .i64 x.f2 : Value))] := by simp
                    have m1 : (((ad.add (k * 3) : Addr), (.int .i64 x.f0 : Value)) : Addr × Value) ∈ [((⟨w.heap.size, 11, none⟩ : Addr), (.slice (some ad) C.f11.length c11 : Value)), ((ad.add (k * 3) : Addr), (.int .i64 x.f0 : Value)), ((⟨(ad.add (k * 3)).block, (ad.add (k * 3)).off + 2, none⟩ : Addr), (.int .i64 x.f2 : Value))] := by simp
                    have m2 : (((⟨(ad.add (k * 3)).block, (ad.add (k * 3)).off + 2, none⟩ : Addr), (.int .i64 x.f2 : Value)) : Addr × Value) ∈ [((⟨w.heap.size, 11, none⟩ : Addr), (.slice (some ad) C.f11.length c11 : Value)), ((ad.add (k * 3) : Addr), (.int .i64 x.f0 : Value)), ((⟨(ad.add (k * 3)).block, (ad.add (k * 3)).off + 2, none⟩ : Addr), (.int .i64 x.f2 : Value))] := by simp
                    generalize wr.drew = Wd at hS HSd HBd ⊢
                    refine pure_ (i := 0) (N := some 121) (v := ?_) (a' := ?_) #[true, false, false, false, false, false, false, false, false, false, false, false, false, false] rfl rfl (by kernel_rfl) (fun _ _ _ h => by cases h.1) (Or.inl ⟨by rfl, ?_⟩) ?_ ?_
                    rotate_left
                    · intro w'
                      go_simp
                      with_reducible rfl
                    rotate_left
                    · simp only [Act.put, List.setIfInBounds_toArray, List.set_cons_zero, List.set_cons_succ]
                      rfl
                    refine take_ (i := 1) (N := some 122) (v := ?_) (a' := ?_) #[true, true, false, false, false, false, false, false, false, false, false, false, false, false] rfl rfl (by kernel_rfl) (fun _ _ _ h => by cases h.1) (Or.inl ⟨by rfl, ?_⟩) hS ?_ ?_
                    rotate_left
                    · intro w' hb
                      have s0 := hb.cell m0
                      go_simp
                      with_reducible rfl
                    rotate_left
                    · simp only [Act.put, List.setIfInBounds_toArray, List.set_cons_zero, List.set_cons_succ]
                      rfl
                    refine pure_ (i := 2) (N := some 123) (v := ?_) (a' := ?_) #[true, true, true, false, false, false, false, false, false, false, false, false, false, false] rfl rfl (by kernel_rfl) (fun _ _ _ h => by cases h.1) (Or.inl ⟨by rfl, ?_⟩) ?_ ?_
                    rotate_left
                    · intro w'
                      go_simp
                      with_reducible rfl
                    rotate_left
                    · simp only [Act.put, List.setIfInBounds_toArray, List.set_cons_zero, List.set_cons_succ]
                      rfl
                    refine pure_ (i := 3) (N := some 124) (v := ?_) (a' := ?_) #[true, true, true, true, false, false, false, false, false, false, false, false, false, false] rfl rfl (by kernel_rfl) (fun _ _ _ h => by cases h.1) (Or.inl ⟨by rfl, ?_⟩) ?_ ?_
                    rotate_left
                    · intro w'
                      go_simp
                      with_reducible rfl
                    rotate_left
                    · simp only [Act.put, List.setIfInBounds_toArray, List.set_cons_zero, List.set_cons_succ]
                      rfl
                    refine pure_ (i := 4) (N := some 125) (v := ?_) (a' := ?_) #[true, true, true, true, true, false, false, false, false, false, false, false, false, false] rfl rfl (by kernel_rfl) (fun _ _ _ h => by cases h.1) (Or.inl ⟨by rfl, ?_⟩) ?_ ?_
                    rotate_left
                    · intro w'
                      go_simp
                      with_reducible rfl
                    rotate_left
                    · simp only [Act.put, List.setIfInBounds_toArray, List.set_cons_zero, List.set_cons_succ]
                      rfl
                    refine take_ (i := 5) (N := some 126) (v := ?_) (a' := ?_) #[true, true, true, true, true, true, false, false, false, false, false, false, false, false] rfl rfl (by kernel_rfl) (fun _ _ _ h => by cases h.1) (Or.inl ⟨by rfl, ?_⟩) hS ?_ ?_
                    rotate_left
                    · intro w' hb
                      have s0 := hb.cell m1
                      go_simp
                      with_reducible rfl
                    rotate_left
                    · simp only [Act.put, List.setIfInBounds_toArray, List.set_cons_zero, List.set_cons_succ]
                      rfl
                    refine pure_ (i := 6) (N := some 127) (v := ?_) (a' := ?_) #[true, true, true, true, true, true, true, false, false, false, false, false, false, false] rfl rfl (by kernel_rfl) (fun _ _ _ h => by cases h.1) (Or.inl ⟨by rfl, ?_⟩) ?_ ?_
                    rotate_left
                    · intro w'
                      go_simp
                      with_reducible rfl
                    rotate_left
                    · simp only [Act.put, List.setIfInBounds_toArray, List.set_cons_zero, List.set_cons_succ]
                      rfl
                    refine take_ (i := 7) (N := some 128) (v := ?_) (a' := ?_) #[true, true, true, true, true, true, true, true, false, false, false, false, false, false] rfl rfl (by kernel_rfl) (fun _ _ _ h => by cases h.1) (Or.inl ⟨by rfl, ?_⟩) hS ?_ ?_
                    rotate_left
                    · intro w' hb
                      have s0 := hb.cell m0
                      go_simp
                      with_reducible rfl
                    rotate_left
                    · simp only [Act.put, List.setIfInBounds_toArray, List.set_cons_zero, List.set_cons_succ]
                      rfl
                    refine pure_ (i := 8) (N := some 129) (v := ?_) (a' := ?_) #[true, true, true, true, true, true, true, true, true, false, false, false, false, false] rfl rfl (by kernel_rfl) (fun _ _ _ h => by cases h.1) (Or.inl ⟨by rfl, ?_⟩) ?_ ?_
                    rotate_left
                    · intro w'
                      go_simp
                      with_reducible rfl
                    rotate_left
                    · simp only [Act.put, List.setIfInBounds_toArray, List.set_cons_zero, List.set_cons_succ]
                      rfl
                    refine pure_ (i := 9) (N := some 130) (v := ?_) (a' := ?_) #[true, true, true, true, true, true, true, true, true, true, false, false, false, false] rfl rfl (by kernel_rfl) (fun _ _ _ h => by cases h.1) (Or.inl ⟨by rfl, ?_⟩) ?_ ?_
                    rotate_left
                    · intro w'
                      go_simp
                      with_reducible rfl
                    rotate_left
                    · simp only [Act.put, List.setIfInBounds_toArray, List.set_cons_zero, List.set_cons_succ]
                      rfl
                    refine pure_ (i := 10) (N := some 131) (v := ?_) (a' := ?_) #[true, true, true, true, true, true, true, true, true, true, true, false, false, false] rfl rfl (by kernel_rfl) (fun _ _ _ h => by cases h.1) (Or.inl ⟨by rfl, ?_⟩) ?_ ?_
                    rotate_left
                    · intro w'
                      go_simp
                      with_reducible rfl
                    rotate_left
                    · simp only [Act.put, List.setIfInBounds_toArray, List.set_cons_zero, List.set_cons_succ]
                      rfl
                    refine take_ (i := 11) (N := some 132) (v := ?_) (a' := ?_) #[true, true, true, true, true, true, true, true, true, true, true, true, false, false] rfl rfl (by kernel_rfl) (fun _ _ _ h => by cases h.1) (Or.inl ⟨by rfl, ?_⟩) hS ?_ ?_
                    rotate_left
                    · intro w' hb
                      have s0 := hb.cell m2
                      go_simp
                      with_reducible rfl
                    rotate_left
                    · simp only [Act.put, List.setIfInBounds_toArray, List.set_cons_zero, List.set_cons_succ]
                      rfl
                    refine one_ (i := 12) (N := some 133) #[true, true, true, true, true, true, true, true, true, true, true, true, true, false] rfl rfl (by kernel_rfl) (by simp) (fun K hK => ?_)
                    go_simp
                    have hSa := hF0 _ (HBd.out.alloc HBd.out.size (Obj.cells #[.int .i64 x.f0, .int .i64 x.f2] 3))
                    refine hK.out _ _ hSa (fun _ => ?_)
                    clear hK K
                    refine last_ (i := 13) (N := some 134) #[true, true, true, true, true, true, true, true, true, true, true, true, true, true] rfl rfl (by kernel_rfl) (by simp) (fun K hK => ?_)
                    go_simp
                    refine ((HSd.out.below ((Below.refl _ _).alloc (Nat.le_refl _) _)).num [x.f0, x.f2] _ 2 (.inr ⟨_, rfl, blk_new Wd (Obj.cells #[.int .i64 x.f0, .int .i64 x.f2] 3)⟩) (by have h := HT.out; rw [cn_len] at h; have h2 := fm_le lkN HX.out; simp only [List.length_append, List.length_cons, List.length_nil, liN, lkN] at h2 ⊢; omega)).mono ?_
                    rintro e u ⟨rfl, v', hs⟩
                    refine hK.out _ _ ?_
                    clear hK K
                    refine done_ (by kernel_rfl) ?_
                    exact ⟨rfl, Wd.heap.size, by simp only [putAll, Act.put, List.setIfInBounds_toArray, List.set_cons_zero, List.set_cons_succ], v', hs⟩
                  · rintro z u ⟨v', hs⟩
                    simp only [putAll, Act.put, List.setIfInBounds_toArray, List.set_cons_zero, List.set_cons_succ]
                    have H5 := Lib.hid hs
                    have y1 := pw_cell_below H5.out.st.bel HX1.out
                    clear hs x0 x1 x2 k11 hF0 HCE
                    have k11 := (cfg_cells (blk_keep H5.out.st.bel HC.out)).2.2.2.2.2.2.2.2.2.2.2
                    go_wp2_with fail
                    refine (H5.out.list x.f1 Ax cx (.inl HXR.out) (by have h := HT.out; rw [cn_len] at h; have h2 := fm_le lkN HX.out; simp only [List.length_append, List.length_cons, List.length_nil, liN, lkN] at h2 ⊢; omega)).mono ?_
                    rintro e W6 ⟨rfl, v6, h6⟩
                    have H6 := Lib.hid h6
                    clear h6 y1 k11
                    go_wp2_with fail
                    go_roundw
                    case rel => exact ⟨k + 1, v6, by omega, by go_num, Lib.hid (by rw [List.take_add_one, HX.out, List.flatMap_append, ← List.append_assoc, List.all_append, ← Bool.and_assoc]; simpa [lkN] using H6.out)⟩
                    case measure => simp [intOf]; omega
                · have hfull : C.f11.take k = C.f11 := List.take_of_length_le (by omega)
                  rw [hfull] at HS
                  have eL : cfgNums C = [C.f0, C.f2, C.f3, C.f4, C.f5, C.f6, C.f7] ++ liN C.f1 ++ [(C.f8.length : Int)] ++ C.f8.flatMap prN ++ [(C.f9.length : Int)] ++ C.f9.flatMap liN ++ [(C.f10.length : Int)] ++ C.f10.flatMap poN ++ [(C.f11.length : Int)] ++ C.f11.flatMap lkN := by simp [cfgNums]
                  have eG : cfgFine C = (true && decide ((C.f1.length : Int) ≤ 65535) && decide ((C.f8.length : Int) ≤ 65535) && decide ((C.f9.length : Int) ≤ 65535) && C.f9.all (fun l => decide ((l.length : Int) ≤ 65535)) && decide ((C.f10.length : Int) ≤ 65535) && decide ((C.f11.length : Int) ≤ 65535) && C.f11.all (fun x => decide ((x.f1.length : Int) ≤ 65535))) := rfl
                  rw [← eL, ← eG] at HS
                  have cO := blk_cell HS.out.st.box 0
                  have cF := blk_cell HS.out.st.box 1
                  have k11 := (cfg_cells (blk_keep HS.out.st.bel HC.out)).2.2.2.2.2.2.2.2.2.2.2
                  have HBE := Lib.hid (show Below w.heap.size w wr from HBV.out.trans (HS.out.st.bel.mono HBV.out.size))
                  obtain ⟨b, hb⟩ : ∃ b, b = (cfgFine C && (cfgNums C).all inN) := ⟨_, rfl⟩
                  have HBB := Lib.hid hb
                  rw [← hb] at cF
                  clear hb hfull eL eG
                  cases b
                  case false =>
                    have HE := Lib.hid (show encS C = ([], 2) by rw [encS, ← HBB.out]; rfl)
                    go_wp2
                    go_ret2
                    rw [HE.out]
                    exact ⟨_, rfl, Kd.R_nil _ _ _ _ _, HBE.out⟩
                  case true =>
                    have hall : (cfgNums C).all inN = true := by have := HBB.out; rw [eq_comm, Bool.and_eq_true] at this; exact this.2
                    have HE := Lib.hid (show encS C = (([82, 79, 84, 65] : List Int) ++ (cfgNums C).flatMap encN, 0) by rw [encS, ← HBB.out]; rfl)
                    have HRW := Lib.hid HS.out.st.row
                    rw [puts_ok hall] at HRW
                    clear hall
                    go_wp2
                    go_ret2
                    rw [HE.out]
                    refine ⟨_, rfl, ?_, HBE.out⟩
                    rcases HRW.out with ⟨-, hbs, -⟩ | hr
                    · exact absurd hbs (by intro h3; have h4 := congrArg List.length h3; rw [List.length_append, enc_len] at h4; simp only [List.length_cons, List.length_nil] at h4; have h2 := cn_pos C; omega)
                    · exact Kd.R_lower hr (by rw [HVZ.out]; omega)
end Go.Proofs.Ytehbabkgaecoaaa
