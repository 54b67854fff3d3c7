/- What config's parts answers. -/
import Derived.Test.YtehbabkgaecoaaaRangeF
namespace Go.Proofs.Ytehbabkgaecoaaa
set_option linter.unusedVariables false
set_option linter.unusedSimpArgs false
open Go.RowKit Go.Shelf Go.Proofs.YtehbabkgaecoaaaW.PrintWords Go.Proofs.YtehbabkgaecoaaaW.PrintLast
attribute [local go_sem] Oper.semAt_some

def partOk (n : Int) (p : S57) : Bool := withinB p.f0 0 (n - 1) && withinB p.f1 0 p.f2 && decide (p.f2 ≤ 256)
def clash (p q : S57) : Bool := decide (p.f0 = q.f0) && meetB p.f1 p.f2 q.f1 q.f2
def prOk (C : S29) (x : PR C.f8.length) : Bool := match C.f8[x.2.1]?, C.f8[x.1.1]? with | some p, some q => !clash p q | _, _ => true
def partsB (C : S29) : Bool := decide (C.f8.length ≤ 32) && C.f8.all (partOk C.f0) && (prs C.f8.length).all (prOk C)
/-- What the range's rounds keep. -/
def PI (A1 A8 A9 A10 A11 : Option Addr) (c1 c8 c9 c10 c11 : Nat) (C : S29) (w : World) (Bn : Nat) (pre : List (PR C.f8.length)) (W : World) : Prop :=
  (((W.heap[w.heap.size]? = some (Obj.cells #[.int .i64 C.f0, .slice A1 C.f1.length c1, .int .i64 C.f2, .int .i64 C.f3, .int .i64 C.f4, .int .i64 C.f5, .int .i64 C.f6, .int .i64 C.f7, .slice A8 C.f8.length c8, .slice A9 C.f9.length c9, .slice A10 C.f10.length c10, .slice A11 C.f11.length c11] 29) ∧ W.heap[w.heap.size + 1]? = some (Obj.cells #[.bool false] 4)) ∧ W.heap[Bn]? = some (Obj.cells #[.int .i64 C.f8.length] 3)) ∧ Below w.heap.size w W) ∧ pre.all (prOk C) = true
def PX (C : S29) (w : World) (c : Code) (pre : List (PR C.f8.length)) (W : World) : Prop :=
  (W.heap[w.heap.size + 1]? = some (Obj.cells #[.bool false] 4) ∧ Below w.heap.size w W) ∧ (c = .ret ∧ pre.all (prOk C) = false)
theorem prefix_all {α : Type} {p : α → Bool} {a b : List α} (h : a <+: b) (ha : a.all p = false) : b.all p = false := by
  obtain ⟨t, rfl⟩ := h
  simp [ha]
set_option maxRecDepth 100000 in
set_option maxHeartbeats 8000000 in
theorem parts_calls (A1 A8 A9 A10 A11 : Option Addr) (c1 c8 c9 c10 c11 : Nat) (C : S29) (w : World) (h : CfgIn w C A1 A8 A9 A10 A11 c1 c8 c9 c10 c11) (h0 : 4 ≤ C.f0) (h16 : C.f0 ≤ 16) : Calls Try.prog 65 #[.agg #[.int .i64 C.f0, .slice A1 C.f1.length c1, .int .i64 C.f2, .int .i64 C.f3, .int .i64 C.f4, .int .i64 C.f5, .int .i64 C.f6, .int .i64 C.f7, .slice A8 C.f8.length c8, .slice A9 C.f9.length c9, .slice A10 C.f10.length c10, .slice A11 C.f11.length c11]] w fun e w' => e = .returned (.bool (partsB C)) ∧ Below w.heap.size w w' := by
  have hb : Below w.heap.size w ((w.alloc (Obj.cells #[.int .i64 C.f0, .slice A1 C.f1.length c1, .int .i64 C.f2, .int .i64 C.f3, .int .i64 C.f4, .int .i64 C.f5, .int .i64 C.f6, .int .i64 C.f7, .slice A8 C.f8.length c8, .slice A9 C.f9.length c9, .slice A10 C.f10.length c10, .slice A11 C.f11.length c11] 29)).alloc (Obj.cells #[.bool false] 4)) := ((Below.refl _ _).alloc (Nat.le_refl _) _).alloc (by simp) _
  have HB := Lib.hid hb
  have HR := Lib.hid h
  have HN := Lib.hid (blk_alloc (blk_new w (o := (Obj.cells #[.int .i64 C.f0, .slice A1 C.f1.length c1, .int .i64 C.f2, .int .i64 C.f3, .int .i64 C.f4, .int .i64 C.f5, .int .i64 C.f6, .int .i64 C.f7, .slice A8 C.f8.length c8, .slice A9 C.f9.length c9, .slice A10 C.f10.length c10, .slice A11 C.f11.length c11] 29))) (Obj.cells #[.bool false] 4))
  have HN2 := Lib.hid (show ((w.alloc (Obj.cells #[.int .i64 C.f0, .slice A1 C.f1.length c1, .int .i64 C.f2, .int .i64 C.f3, .int .i64 C.f4, .int .i64 C.f5, .int .i64 C.f6, .int .i64 C.f7, .slice A8 C.f8.length c8, .slice A9 C.f9.length c9, .slice A10 C.f10.length c10, .slice A11 C.f11.length c11] 29)).alloc (Obj.cells #[.bool false] 4)).heap[w.heap.size + 1]? = some (Obj.cells #[.bool false] 4) by
    have := blk_new (w.alloc (Obj.cells #[.int .i64 C.f0, .slice A1 C.f1.length c1, .int .i64 C.f2, .int .i64 C.f3, .int .i64 C.f4, .int .i64 C.f5, .int .i64 C.f6, .int .i64 C.f7, .slice A8 C.f8.length c8, .slice A9 C.f9.length c9, .slice A10 C.f10.length c10, .slice A11 C.f11.length c11] 29)) (o := Obj.cells #[.bool false] 4); rwa [World.size_alloc] at this)
  obtain ⟨l1, l8, l9, l10, l11⟩ := h.len
  clear hb h
  obtain ⟨b, hb⟩ : ∃ b, b = partsB C := ⟨_, rfl⟩
  rw [← hb]
  have HBB := Lib.hid hb
  clear hb
  refine callsIn_wide.1 (callsIn_of_wp_marks (n := 9) Try.func65 rfl trivial (wpIn_wide.2 ?_) rfl)
  simp only [Try.ntmps65, List.size_toArray, List.length_cons, List.length_nil, Nat.reduceAdd, Nat.reduceSub, Array.replicate_succ, Array.replicate_zero, List.push_toArray, List.append_toArray, List.nil_append, List.cons_append]
  by_cases h1 : C.f8.length ≤ 32
  case neg =>
    have hn : b = false := by rw [HBB.out]; simp [partsB, h1]
    subst hn
    go_wp2
    refine leaves_marked (B := w.heap.size) [] _ (Marked.nil _ _) (fun W' hW' => ?_)
    have hk := hW'.2 _ _ _ _ HN2.out
    have hc : W'.cell? ⟨w.heap.size + 1, 0, none⟩ = some (.bool false) := blk_cell hk 0
    exact ⟨.bool false, by simp [results, Try.f65, go_sem, hc], rfl, HB.out.trans hW'.1⟩
  have ewrap : wrap64 (C.f0 - 1) = C.f0 - 1 := by unfold wrap64; omega
  have EW := Lib.hid ewrap
  clear ewrap
  go_wp2
  go_loopw [16] (fun i wr => ∃ k : Nat, k ≤ C.f8.length ∧ i = .int .i64 k ∧ Hid ((C.f8.take k).all (partOk C.f0) = true) ∧ Hid (Below w.heap.size w wr) ∧ Hid (wr.heap[w.heap.size]? = some (Obj.cells #[.int .i64 C.f0, .slice A1 C.f1.length c1, .int .i64 C.f2, .int .i64 C.f3, .int .i64 C.f4, .int .i64 C.f5, .int .i64 C.f6, .int .i64 C.f7, .slice A8 C.f8.length c8, .slice A9 C.f9.length c9, .slice A10 C.f10.length c10, .slice A11 C.f11.length c11] 29)) ∧ Hid (wr.heap[w.heap.size + 1]? = some (Obj.cells #[.bool false] 4))) (fun i _ => C.f8.length - (intOf i).toNat)
  case atStart => exact ⟨0, by omega, rfl, Lib.hid (by simp), HB, HN, HN2⟩
  case round =>
    clear HB HN HN2
    obtain ⟨k, hk, rfl, HA, HB, HC, HC2⟩ := hrel
    have hlt1 := blk_lt HC2.out
    have hlt0 := blk_lt HC.out
    by_cases hlt : k < C.f8.length
    · obtain ⟨ad, p, e8, p0, p1, p2, HV⟩ := at_P (HR.out.below HB.out).2.1.2 k hlt
      cases e8
      obtain ⟨g0, -, -, -, -, -, -, -, -, -, -, -⟩ := cfg_cells HC.out
      have hno := Lib.hid (show partOk C.f0 p = false → b = false from fun h => by rw [HBB.out, partsB, all_false_at HV.out h]; simp)
      have hyes := Lib.hid (fun h => all_take_succ HV.out HA.out h)
      have HB2 := Lib.hid (HB.out.alloc HB.out.size (Obj.cells #[.int .i64 p.f0, .int .i64 p.f1, .int .i64 p.f2] 57))
      have HC3 := Lib.hid (blk_alloc HC.out (Obj.cells #[.int .i64 p.f0, .int .i64 p.f1, .int .i64 p.f2] 57))
      have HC4 := Lib.hid (blk_alloc HC2.out (Obj.cells #[.int .i64 p.f0, .int .i64 p.f1, .int .i64 p.f2] 57))
      have hf := blk_frozen HC2.out 0
      have hcz := blk_cell HC2.out 0
      have HBS := Lib.hid (below_set (g := w.heap.size + 1) (j := 0) (v := .bool false) HB.out (by omega))
      go_wp2_with fail
      obtain ⟨b1, e1, hc1⟩ := within_any p.f0 0 (C.f0 - 1) _
      have E1 := Lib.hid e1
      clear e1
      refine hc1.mono ?_
      clear hc1
      rintro e w2 ⟨rfl, rfl⟩
      cases b1
      case false =>
        have hres := hno.out (by simp [partOk, ← E1.out])
        subst hres
        go_wp2
        refine leaves_marked (B := w.heap.size) [] _ (Marked.nil _ _) (fun W' hW' => ?_)
        have hk := hW'.2 _ _ _ _ (blk_alloc (blk_set HC2.out 0 (.bool false)) _)
        have hc : W'.cell? ⟨w.heap.size + 1, 0, none⟩ = some (.bool false) := blk_cell hk 0
        exact ⟨.bool false, by simp [results, Try.f65, go_sem, hc], rfl, (HBS.out.alloc HBS.out.size _).trans hW'.1⟩
      go_wp2_with fail
      obtain ⟨b2, e2, hc2⟩ := within_any p.f1 0 p.f2 _
      have E2 := Lib.hid e2
      clear e2
      refine hc2.mono ?_
      clear hc2
      rintro e w2 ⟨rfl, rfl⟩
      cases b2
      case false =>
        have hres := hno.out (by simp [partOk, ← E2.out])
        subst hres
        go_wp2
        refine leaves_marked (B := w.heap.size) [] _ (Marked.nil _ _) (fun W' hW' => ?_)
        have hk := hW'.2 _ _ _ _ (blk_alloc (blk_set HC2.out 0 (.bool false)) _)
        have hc : W'.cell? ⟨w.heap.size + 1, 0, none⟩ = some (.bool false) := blk_cell hk 0
        exact ⟨.bool false, by simp [results, Try.f65, go_sem, hc], rfl, (HBS.out.alloc HBS.out.size _).trans hW'.1⟩
      by_cases h3 : p.f2 ≤ 256
      · have hok := Lib.hid (show partOk C.f0 p = true by rw [partOk, ← E1.out, ← E2.out, decide_eq_true h3]; rfl)
        go_wp2
        go_roundw
        case rel => exact ⟨k + 1, by omega, by go_num, Lib.hid (hyes.out hok.out), HB2, HC3, HC4⟩
        case measure => simp [intOf]; omega
      · have hres := hno.out (by simp [partOk, h3])
        subst hres
        go_wp2
        refine leaves_marked (B := w.heap.size) [] _ (Marked.nil _ _) (fun W' hW' => ?_)
        have hk := hW'.2 _ _ _ _ (blk_alloc (blk_set HC2.out 0 (.bool false)) _)
        have hc : W'.cell? ⟨w.heap.size + 1, 0, none⟩ = some (.bool false) := blk_cell hk 0
        exact ⟨.bool false, by simp [results, Try.f65, go_sem, hc], rfl, (HBS.out.alloc HBS.out.size _).trans hW'.1⟩
    · have hAll := Lib.hid (show C.f8.all (partOk C.f0) = true by have := HA.out; rwa [List.take_of_length_le (by omega)] at this)
      obtain ⟨-, -, -, -, -, -, -, -, g8, -, -, -⟩ := cfg_cells HC.out
      go_wp2_with fail
      refine (callsIn_wide.1 (pairs_in Fence.wide 9 trivial rfl C.f8.length wr)).mono ?_
      rintro e w' ⟨rfl, rfl⟩
      have hbN : (wr.alloc (Obj.cells #[.int .i64 C.f8.length] 3)).heap[wr.heap.size]? = some (Obj.cells #[.int .i64 C.f8.length] 3) := blk_new wr _
      have hp0 : PI A1 A8 A9 A10 A11 c1 c8 c9 c10 c11 C w wr.heap.size [] (wr.alloc (Obj.cells #[.int .i64 C.f8.length] 3)) := ⟨⟨⟨⟨blk_alloc HC.out _, blk_alloc HC2.out _⟩, blk_new wr _⟩, HB.out.alloc HB.out.size _⟩, rfl⟩
      have hsz1 : (wr.alloc (Obj.cells #[.int .i64 C.f8.length] 3)).heap.size = wr.heap.size + 1 := by simp
      have HR1 := Lib.hid (HR.out.below (HB.out.alloc HB.out.size (Obj.cells #[.int .i64 C.f8.length] 3)))
      obtain ⟨W3, hW3⟩ : ∃ W3, wr.alloc (Obj.cells #[.int .i64 C.f8.length] 3) = W3 := ⟨_, rfl⟩
      rw [hW3] at hbN hp0 hsz1 HR1 ⊢
      have HR0 := HR
      clear hW3 HR
      have hcN := blk_cell hbN 0
      have hsw := HB.out.size
      go_wp2_with fail
      refine wpIn_wide.1 (range_own (F := Fence.wide) (n := 9) rfl (by omega) (gf := 78) rfl trivial (fun args w => rfl) (pairs_stops Fence.wide (9 - 1) trivial rfl (by omega) wr.heap.size C.f8.length (by omega) W3 hcN) KB.trans (KB.put (by omega)) (fun _ => rfl) (PI A1 A8 A9 A10 A11 c1 c8 c9 c10 c11 C w wr.heap.size) (PX C w) ?hI ?hIx hp0 ?hbody ?hdone ?hstop)
      case hI => exact ownFrom_and (ownFrom_and (ownFrom_and (ownFrom_and ownFrom_blk ownFrom_blk) ownFrom_blk) (ownFrom_below' (by omega) (Nat.le_refl _))) (ownFrom_const _)
      case hIx => exact fun c => ownFrom_and (ownFrom_and ownFrom_blk (ownFrom_below' (by omega) (Nat.le_refl _))) (ownFrom_const _)
      case hbody =>
        refine ⟨_, fun l x W K HK => by gi_wp2; exact HK.out, ?_⟩
        rintro l pre ⟨⟨kk, hkk⟩, ⟨ii, hii⟩⟩ W ⟨⟨⟨⟨hC, hC2⟩, hN⟩, hB⟩, hA⟩ _
        dsimp only at hii ⊢
        have hil : ii < C.f8.length := by omega
        have HC := Lib.hid hC
        have HC2 := Lib.hid hC2
        have HB := Lib.hid hB
        have HA := Lib.hid hA
        have HNb := Lib.hid hN
        have hltN := blk_lt hN
        clear hC hC2 hB hA hN
        obtain ⟨ad, p, e8, p0, p1, p2, HV⟩ := at_P (HR0.out.below HB.out).2.1.2 ii hil
        obtain ⟨ad', q, e8', q0, q1, q2, HV'⟩ := at_P (HR0.out.below HB.out).2.1.2 kk hkk
        subst e8
        cases e8'
        have hltW := blk_lt HC.out
        have hltW2 := blk_lt HC2.out
        obtain ⟨-, -, -, -, -, -, -, -, g8, -, -, -⟩ := cfg_cells HC.out
        gi_wp2
        refine region_round (S := Sd W) (N := 14) (σ := Nat × Nat) (ds := []) (fun s => [(47, .pointer (some ⟨w.heap.size, 8, none⟩)), (48, .slice (some ad) C.f8.length c8), (49, .int .i64 ii), (50, .pointer (some (ad.add (ii * 3)))), (51, .agg #[.int .i64 p.f0, .int .i64 p.f1, .int .i64 p.f2]), (52, .pointer (some ⟨w.heap.size, 8, none⟩)), (53, .slice (some ad) C.f8.length c8), (54, .int .i64 kk), (55, .pointer (some (ad.add (kk * 3)))), (56, .agg #[.int .i64 q.f0, .int .i64 q.f1, .int .i64 q.f2]), (7, .pointer (some ⟨s.1, 0, none⟩)), (8, .pointer (some ⟨s.2, 0, none⟩))]) (fun s w' => w'.heap[s.1]? = some (Obj.cells #[.int .i64 p.f0, .int .i64 p.f1, .int .i64 p.f2] 57) ∧ w'.heap[s.2]? = some (Obj.cells #[.int .i64 q.f0, .int .i64 q.f1, .int .i64 q.f2] 57) ∧ Sd W w') #[false, false, false, false, false, false, false, false, false, false, false, false, false, false] (Sd.drew0 W) (by kernel_rfl) (by kernel_rfl) rfl rfl ?_ ?_
        · have hS := Sd.drew0 W
          generalize W.drew = Wd at hS ⊢
          refine pure_ (i := 0) (N := some 47) (v := ?_) (a' := ?_) #[true, false, false, false, false, false, false, false, false, false, false, false, false, false] rfl rfl (by kernel_rfl) (fun _ _ _ h => by cases h.1) (Or.inl ⟨by rfl, ?_⟩) ?_ ?_
          rotate_left
          · intro w'
            go_simp
            with_reducible rfl
          rotate_left
          · simp only [Act.put, List.setIfInBounds_toArray, List.set_cons_zero, List.set_cons_succ]
            rfl
          refine take_ (i := 1) (N := some 48) (v := ?_) (a' := ?_) #[true, true, false, false, false, false, false, false, false, false, false, false, false, false] rfl rfl (by kernel_rfl) (fun _ _ _ h => by cases h.1) (Or.inl ⟨by rfl, ?_⟩) hS ?_ ?_
          rotate_left
          · intro w' hb
            have s := hb.cell g8
            go_simp
            with_reducible rfl
          rotate_left
          · simp only [Act.put, List.setIfInBounds_toArray, List.set_cons_zero, List.set_cons_succ]
            rfl
          refine pure_ (i := 2) (N := some 49) (v := ?_) (a' := ?_) #[true, true, true, false, false, false, false, false, false, false, false, false, false, false] rfl rfl (by kernel_rfl) (fun _ _ _ h => by cases h.1) (Or.inl ⟨by rfl, ?_⟩) ?_ ?_
          rotate_left
          · intro w'
            go_simp
            with_reducible rfl
          rotate_left
          · simp only [Act.put, List.setIfInBounds_toArray, List.set_cons_zero, List.set_cons_succ]
            rfl
          refine pure_ (i := 3) (N := some 50) (v := ?_) (a' := ?_) #[true, true, true, true, false, false, false, false, false, false, false, false, false, false] rfl rfl (by kernel_rfl) (fun _ _ _ h => by cases h.1) (Or.inl ⟨by rfl, ?_⟩) ?_ ?_
          rotate_left
          · intro w'
            go_simp
            with_reducible rfl
          rotate_left
          · simp only [Act.put, List.setIfInBounds_toArray, List.set_cons_zero, List.set_cons_succ]
            rfl
          refine take_ (i := 4) (N := some 51) (v := ?_) (a' := ?_) #[true, true, true, true, true, false, false, false, false, false, false, false, false, false] rfl rfl (by kernel_rfl) (fun _ _ _ h => by cases h.1) (Or.inl ⟨by rfl, ?_⟩) hS ?_ ?_
          rotate_left
          · intro w' hb
            have s := hb.cell p0
            have s0 := hb.cell p1
            have s1 := hb.cell p2
            go_simp
            with_reducible rfl
          rotate_left
          · simp only [Act.put, List.setIfInBounds_toArray, List.set_cons_zero, List.set_cons_succ]
            rfl
          refine pure_ (i := 5) (N := some 52) (v := ?_) (a' := ?_) #[true, true, true, true, true, true, false, false, false, false, false, false, false, false] rfl rfl (by kernel_rfl) (fun _ _ _ h => by cases h.1) (Or.inl ⟨by rfl, ?_⟩) ?_ ?_
          rotate_left
          · intro w'
            go_simp
            with_reducible rfl
          rotate_left
          · simp only [Act.put, List.setIfInBounds_toArray, List.set_cons_zero, List.set_cons_succ]
            rfl
          refine take_ (i := 6) (N := some 53) (v := ?_) (a' := ?_) #[true, true, true, true, true, true, true, false, false, false, false, false, false, false] rfl rfl (by kernel_rfl) (fun _ _ _ h => by cases h.1) (Or.inl ⟨by rfl, ?_⟩) hS ?_ ?_
          rotate_left
          · intro w' hb
            have s := hb.cell g8
            go_simp
            with_reducible rfl
          rotate_left
          · simp only [Act.put, List.setIfInBounds_toArray, List.set_cons_zero, List.set_cons_succ]
            rfl
          refine pure_ (i := 7) (N := some 54) (v := ?_) (a' := ?_) #[true, true, true, true, true, true, true, true, false, false, false, false, false, false] rfl rfl (by kernel_rfl) (fun _ _ _ h => by cases h.1) (Or.inl ⟨by rfl, ?_⟩) ?_ ?_
          rotate_left
          · intro w'
            go_simp
            with_reducible rfl
          rotate_left
          · simp only [Act.put, List.setIfInBounds_toArray, List.set_cons_zero, List.set_cons_succ]
            rfl
          refine pure_ (i := 8) (N := some 55) (v := ?_) (a' := ?_) #[true, true, true, true, true, true, true, true, true, false, false, false, false, false] rfl rfl (by kernel_rfl) (fun _ _ _ h => by cases h.1) (Or.inl ⟨by rfl, ?_⟩) ?_ ?_
          rotate_left
          · intro w'
            go_simp
            with_reducible rfl
          rotate_left
          · simp only [Act.put, List.setIfInBounds_toArray, List.set_cons_zero, List.set_cons_succ]
            rfl
          refine take_ (i := 9) (N := some 56) (v := ?_) (a' := ?_) #[true, true, true, true, true, true, true, true, true, true, false, false, false, false] rfl rfl (by kernel_rfl) (fun _ _ _ h => by cases h.1) (Or.inl ⟨by rfl, ?_⟩) hS ?_ ?_
          rotate_left
          · intro w' hb
            have s := hb.cell q0
            have s0 := hb.cell q1
            have s1 := hb.cell q2
            go_simp
            with_reducible rfl
          rotate_left
          · simp only [Act.put, List.setIfInBounds_toArray, List.set_cons_zero, List.set_cons_succ]
            rfl
          have hlw := hS.1.size
          refine two_ (i := 10) (j := 11) #[true, true, true, true, true, true, true, true, true, true, true, false, false, false] #[true, true, true, true, true, true, true, true, true, true, false, true, false, false] rfl rfl rfl rfl (by kernel_rfl) (by simp) (by simp) (fun K hK => ?_) (fun K hK => ?_)
          · go_simp
            refine hK.out _ _ (hS.alloc _ _) (fun hS2 => ?_)
            clear hK K
            refine one_ (i := 11) (N := some 8) #[true, true, true, true, true, true, true, true, true, true, true, true, false, false] rfl rfl (by kernel_rfl) (by simp) (fun K hK => ?_)
            go_simp
            refine hK.out _ _ (hS2.alloc _ _) (fun _ => ?_)
            clear hK K
            refine one_ (i := 12) (N := none) #[true, true, true, true, true, true, true, true, true, true, true, true, true, false] rfl rfl (by kernel_rfl) (by simp) (fun K hK => ?_)
            go_simp
            refine hK.out _ _ ((hS.alloc _ _).alloc _ _) (fun _ => ?_)
            clear hK K
            refine one_ (i := 13) (N := none) #[true, true, true, true, true, true, true, true, true, true, true, true, true, true] rfl rfl (by kernel_rfl) (by simp) (fun K hK => ?_)
            go_simp
            refine hK.out _ _ ((hS.alloc _ _).alloc _ _) (fun _ => ?_)
            clear hK K
            refine done_ (by kernel_rfl) ?_
            exact ⟨rfl, (Wd.heap.size, Wd.heap.size + 1), by simp only [putAll, Act.put, List.setIfInBounds_toArray, List.set_cons_zero, List.set_cons_succ], blk_alloc (blk_new _ _) _, by rw [← World.size_alloc Wd]; exact blk_new _ _, (hS.alloc _ _).alloc _ _⟩
          · go_simp
            refine hK.out _ _ (hS.alloc _ _) (fun hS2 => ?_)
            clear hK K
            refine one_ (i := 10) (N := some 7) #[true, true, true, true, true, true, true, true, true, true, true, true, false, false] rfl rfl (by kernel_rfl) (by simp) (fun K hK => ?_)
            go_simp
            refine hK.out _ _ (hS2.alloc _ _) (fun _ => ?_)
            clear hK K
            refine one_ (i := 12) (N := none) #[true, true, true, true, true, true, true, true, true, true, true, true, true, false] rfl rfl (by kernel_rfl) (by simp) (fun K hK => ?_)
            go_simp
            refine hK.out _ _ ((hS.alloc _ _).alloc _ _) (fun _ => ?_)
            clear hK K
            refine one_ (i := 13) (N := none) #[true, true, true, true, true, true, true, true, true, true, true, true, true, true] rfl rfl (by kernel_rfl) (by simp) (fun K hK => ?_)
            go_simp
            refine hK.out _ _ ((hS.alloc _ _).alloc _ _) (fun _ => ?_)
            clear hK K
            refine done_ (by kernel_rfl) ?_
            exact ⟨rfl, (Wd.heap.size + 1, Wd.heap.size), by simp only [putAll, Act.put, List.setIfInBounds_toArray, List.set_cons_zero, List.set_cons_succ], by rw [← World.size_alloc Wd]; exact blk_new _ _, blk_alloc (blk_new _ _) _, (hS.alloc _ _).alloc _ _⟩
        · rintro ⟨bp, bq⟩ V ⟨hbp, hbq, hSd⟩
          dsimp only at hbp hbq
          have HBp := Lib.hid hbp
          have HBq := Lib.hid hbq
          have HSd := Lib.hid hSd
          clear hbp hbq hSd p0 p1 p2 q0 q1 q2 g8
          have y0 := blk_cell HBp.out 0
          have y1 := blk_cell HBp.out 1
          have y2 := blk_cell HBp.out 2
          have z0 := blk_cell HBq.out 0
          have z1 := blk_cell HBq.out 1
          have z2 := blk_cell HBq.out 2
          simp only [putAll, Act.put, List.setIfInBounds_toArray, List.set_cons_zero, List.set_cons_succ]
          have HC2V := Lib.hid ((HSd.out.1.block _ hltW2).trans HC2.out)
          have HCV := Lib.hid ((HSd.out.1.block _ hltW).trans HC.out)
          have HBV := Lib.hid (HB.out.trans (HSd.out.1.mono HB.out.size))
          have hKB := Lib.hid (show KB wr.heap.size W V from HSd.out.1.block _ hltN)
          have HNV := Lib.hid ((HSd.out.1.block _ hltN).trans HNb.out)
          have hc2 := blk_cell HC2V.out 0
          have hf2 := blk_frozen HC2V.out 0
          have hpr := Lib.hid (show prOk C ⟨⟨kk, hkk⟩, ⟨ii, hii⟩⟩ = !clash p q by simp only [prOk]; rw [HV.out, HV'.out])
          by_cases c0 : p.f0 = q.f0
          · have e0 : (p.f0 == q.f0) = true := by simpa using c0
            obtain ⟨bm, hbm⟩ : ∃ bm, bm = meetB p.f1 p.f2 q.f1 q.f2 := ⟨_, rfl⟩
            have HBM := Lib.hid hbm
            have Hc0 := Lib.hid c0
            clear c0 hbm
            gi_wp2_with fail
            refine ⟨trivial, (CallsIn.inRound l (callsIn_wide.2 (meet_calls _ _ _ _ _))).mono ?_⟩
            rintro e w2 ⟨rfl, rfl⟩
            rw [← HBM.out]
            cases bm
            · gi_wp2
              exact ⟨HSd.out.2, hKB.out, ⟨⟨⟨HCV.out, HC2V.out⟩, HNV.out⟩, HBV.out⟩, by rw [List.all_append, HA.out]; simp [hpr.out, clash, ← HBM.out]⟩
            · gi_wp2
              exact ⟨HSd.out.2.trans (KeepsOthers.setCell _ _ _), ⟨blk_set HC2V.out 0 (.bool false), below_set HBV.out (by omega)⟩, rfl, by rw [List.all_append]; simp [hpr.out, clash, Hc0.out, ← HBM.out]⟩
          · have e0 : (p.f0 == q.f0) = false := by simpa using c0
            have Hc0 := Lib.hid c0
            clear c0
            gi_wp2
            refine ⟨trivial, ?_⟩
            gi_wp2
            exact ⟨HSd.out.2, hKB.out, ⟨⟨⟨HCV.out, HC2V.out⟩, HNV.out⟩, HBV.out⟩, by rw [List.all_append, HA.out]; simp [hpr.out, clash, Hc0.out]⟩
      case hdone =>
        rintro D xs W5 hD rfl ⟨⟨⟨⟨hC, hC2⟩, hN⟩, hB⟩, hA⟩ hK
        have hres : b = true := by rw [HBB.out, partsB, decide_eq_true h1, hAll.out, hA]; rfl
        subst hres
        have HC2 := Lib.hid hC2
        have HBz := Lib.hid hB
        have HKD := Lib.hid hK
        have hc2 := blk_cell hC2 0
        have hf2 := blk_frozen hC2 0
        clear hC hC2 hN hB hA hK
        go_wp2
        refine leaves_marked (B := w.heap.size) [D] _ (Marked.one (by omega) (((KeepsOthers.setCell W5 _ _).same D _ HKD.out rfl))) (fun W' hW' => ?_)
        have hk := hW'.2 _ _ _ _ (blk_set HC2.out 0 (.bool true))
        have hc : W'.cell? ⟨w.heap.size + 1, 0, none⟩ = some (.bool true) := blk_cell hk 0
        exact ⟨.bool true, by simp [results, Try.f65, go_sem, hc], rfl, (below_set HBz.out (by omega)).trans hW'.1⟩
      case hstop =>
        rintro D c pre W5 hD hpre ⟨⟨hC2, hB⟩, rfl, hA⟩ hK
        have hres : b = false := by rw [HBB.out, partsB, prefix_all hpre hA]; simp
        subst hres
        have HC2 := Lib.hid hC2
        have HBz := Lib.hid hB
        have HKD := Lib.hid hK
        clear hC2 hB hA hK
        refine wpIn_wide.2 ?_
        go_wp2
        refine leaves_marked (B := w.heap.size) [D] _ (Marked.one (by omega) HKD.out) (fun W' hW' => ?_)
        have hk := hW'.2 _ _ _ _ HC2.out
        have hc : W'.cell? ⟨w.heap.size + 1, 0, none⟩ = some (.bool false) := blk_cell hk 0
        exact ⟨.bool false, by simp [results, Try.f65, go_sem, hc], rfl, HBz.out.trans hW'.1⟩
end Go.Proofs.Ytehbabkgaecoaaa
