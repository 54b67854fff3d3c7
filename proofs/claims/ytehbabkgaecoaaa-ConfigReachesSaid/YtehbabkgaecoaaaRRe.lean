/- What the document's Reach answers. -/
import Derived.Test.YtehbabkgaecoaaaRRp
import Derived.Test.YtehbabkgaecoaaaRR
import Derived.StillTailTactics
namespace Go.Proofs.Ytehbabkgaecoaaa
set_option linter.unusedVariables false
set_option linter.unusedSimpArgs false
open Go.RowKit Go.Shelf Go.Proofs.YtehbabkgaecoaaaW.PrintWords Go.Proofs.YtehbabkgaecoaaaW.PrintLast

theorem drewc {V V1 : World} (h : V.drew = V1) {p : Addr} {v : Value} (hc : V.cell? p = some v) : V1.cell? p = some v := by subst h; exact hc
theorem drewf {V V1 : World} (h : V.drew = V1) {p : Addr} {b : Bool} (hc : V.frozen? p = b) : V1.frozen? p = b := by subst h; exact hc
/-- A region that draws its order and ends with one store. -/
theorem region_y {P : Program} {ops : Array Oper} {Q : Exit → Act → World → Prop} {id N : Nat} {a : Act} {w : World} {ds : List Nat} {A : Act} (R : World → Prop) (lst : Array Bool) (hm : P.follows .mixedOrders = true) (hN : ops.size = N) (hl : Array.replicate N false = lst)
    (h1 : ∀ Wd, Bz w Wd → wpAnyLast P .any ops (fun e a' w' => e = .normal ∧ a' = A ∧ R w') (Bz w) ds N lst a Wd)
    (h2 : ∀ w', R w' → Q .normal A w') : (Code.region id ops true).wp P Q a w := by
  refine wp_mono (Q := fun e a' w' => e = .normal ∧ a' = A ∧ R w') (start_ lst hm hN hl (Bz.drew0 w) (fun _ => h1 _ (Bz.drew0 w))) ?_
  rintro e a' w' ⟨rfl, rfl, hr⟩
  exact h2 w' hr
theorem Bz.frozen {W V : World} (h : Bz W V) {p : Addr} {v : Value} {b : Bool} (hc : W.cell? p = some v) (hf : W.frozen? p = b) : V.frozen? p = b := (Below.frozen h (World.block_lt_of_cell? W _ hc)).trans hf
theorem OutI.put {W : World} {lo G P : Nat} {bs : List Nat} {M : List (List Bool)} (h : OutI W lo G P bs M) (hG : G < lo) {i b : Nat} (hb : bs[i]? = some b) (t : Nat) (v : Bool) : OutI (W.setCell ⟨b, t, none⟩ (.bool v)) lo G P bs (M.set i ((M.getD i []).set t v)) := by
  obtain ⟨h1, h2, h3⟩ := h.row i b hb
  have hi := (List.getElem?_eq_some_iff.1 hb).1
  have hiM : i < M.length := by rw [← h.len]; exact hi
  refine ⟨blk_far h.blk (p := ⟨b, t, none⟩) (by show G ≠ b; omega) _, by rw [List.length_set]; exact h.len, h.le, fun i' b' hb' => ?_, h.nodup⟩
  obtain ⟨g1, g2, g3⟩ := h.row i' b' hb'
  rw [getD_set' hiM]
  by_cases he : i' = i
  · subst he
    rw [hb] at hb'
    cases hb'
    rw [if_pos rfl]
    refine ⟨g1, by rw [List.length_set]; exact g2, ?_⟩
    rw [blk_set g3 t (.bool v), List.map_set, ← List.setIfInBounds_toArray]
  · rw [if_neg he]
    refine ⟨g1, g2, blk_far g3 (p := ⟨b, t, none⟩) (fun e => he ?_) _⟩
    have e' : b' = b := e
    subst e'
    have hi' := (List.getElem?_eq_some_iff.1 hb').1
    have e1 : bs[i'] = bs[i] := by rw [(List.getElem?_eq_some_iff.1 hb').2, (List.getElem?_eq_some_iff.1 hb).2]
    have hp := List.pairwise_iff_getElem.1 (List.nodup_iff_pairwise_ne.1 h.nodup)
    rcases Nat.lt_trichotomy i' i with hl | hl | hl
    · exact absurd e1 (hp _ _ hi' hi hl)
    · exact hl
    · exact absurd e1.symm (hp _ _ hi hi' hl)
theorem OutI.at2 {W : World} {lo G P : Nat} {bs : List Nat} {M : List (List Bool)} (h : OutI W lo G P bs M) (hb : bs.length = P) {i : Nat} (hi : i < P) : ∃ b, bs[i]? = some b ∧ W.cell? ⟨G, i, none⟩ = some (.slice (some ⟨b, 0, none⟩) P P) ∧ (∀ k, k < P → W.cell? ⟨b, k, none⟩ = some (.bool ((M.getD i []).getD k false))) ∧ (∀ k, W.frozen? ⟨b, k, none⟩ = false) ∧ (M.getD i []).length = P := by
  obtain ⟨b, hg⟩ : ∃ b, bs[i]? = some b := ⟨bs[i]'(by omega), List.getElem?_eq_getElem (by omega)⟩
  obtain ⟨h1, h2, h3⟩ := h.row i b hg
  refine ⟨b, hg, ?_, fun k hk => ?_, fun k => blk_frozen h3 k, h2⟩
  · rw [blk_cell h.blk i, List.getElem?_toArray, List.getElem?_append_left (by simp; omega), List.getElem?_map, hg]
    rfl
  · generalize M.getD i [] = r at h2 h3
    rw [blk_cell h3 k, List.getElem?_toArray, List.getElem?_map, List.getD_eq_getElem?_getD, List.getElem?_eq_getElem (by omega)]
    rfl
def M0 (P k : Nat) : List (List Bool) := (List.range k).map (fun i => (List.replicate P false).set i true)
theorem M0_at {P k i : Nat} (hi : i < k) : (M0 P k).getD i [] = (List.replicate P false).set i true := by
  unfold M0
  rw [List.getD_eq_getElem?_getD, List.getElem?_map, List.getElem?_range hi]
  rfl
/-- What the rounds have made so far. -/
def S1 (C : S29) (r k : Nat) (i j : Nat) : Prop := Rk (nxOf C C.f11) i r j ∨ ∃ x ∈ C.f11.take k, okL C x = true ∧ ∃ q ∈ toL C x, q.toNat = j ∧ Rk (nxOf C C.f11) i r (fromL C x)
def S2 (C : S29) (r k : Nat) (x : S61) (m : Nat) (i j : Nat) : Prop := S1 C r k i j ∨ ∃ q ∈ (toL C x).take m, q.toNat = j ∧ Rk (nxOf C C.f11) i r (fromL C x)
def S3 (C : S29) (r k : Nat) (x : S61) (m t n : Nat) (i j : Nat) : Prop := S2 C r k x m i j ∨ i < n ∧ j = t ∧ Rk (nxOf C C.f11) i r (fromL C x)
theorem s1_next {C : S29} {r i j : Nat} (h : Rk (nxOf C C.f11) i (r + 1) j) : S1 C r C.f11.length i j := by
  rcases h with h | ⟨p, hp, q, hq, he⟩
  · exact .inl h
  · right
    rcases nx_from C.f11 (List.replicate C.f8.length []) (by simp) hq with h1 | ⟨x, hx, ho, hf, hm⟩
    · rw [List.getD_eq_getElem?_getD, List.getElem?_replicate] at h1
      split at h1 <;> simp at h1
    · exact ⟨x, by rw [List.take_length]; exact hx, ho, q, hm, he, by rw [hf]; exact hp⟩
theorem s1_link {C : S29} {r k : Nat} {x : S61} (hx : C.f11[k]? = some x) {i j : Nat} (h : S1 C r (k + 1) i j) : okL C x = true ∧ S2 C r k x x.f1.length i j ∨ S1 C r k i j := by
  rcases h with h | ⟨y, hy, ho, q, hq, he, hr⟩
  · exact .inr (.inl h)
  · rw [List.take_add_one, hx] at hy
    rcases List.mem_append.1 hy with hy | hy
    · exact .inr (.inr ⟨y, hy, ho, q, hq, he, hr⟩)
    · obtain rfl : y = x := by simpa using hy
      exact .inl ⟨ho, .inr ⟨q, by rw [List.take_of_length_le (by simp [toL])]; exact hq, he, hr⟩⟩
set_option maxRecDepth 100000 in
set_option maxHeartbeats 32000000 in
theorem rreach_calls (A1 A8 A9 A10 A11 : Option Addr) (c1 c8 c9 c10 c11 : Nat) (C : S29) (w : World) (h : CfgIn w C A1 A8 A9 A10 A11 c1 c8 c9 c10 c11) (hP : C.f8.length ≤ 1000) (hL : C.f11.length ≤ 1000) :
    Calls Try.prog 28 #[.agg #[.int .i64 C.f0, .slice A1 C.f1.length c1, .int .i64 C.f2, .int .i64 C.f3, .int .i64 C.f4, .int .i64 C.f5, .int .i64 C.f6, .int .i64 C.f7, .slice A8 C.f8.length c8, .slice A9 C.f9.length c9, .slice A10 C.f10.length c10, .slice A11 C.f11.length c11]] w fun e w' => ∃ (G lo : Nat) (bs : List Nat) (M : List (List Bool)), e = .returned (slV G C.f8.length) ∧ w.heap.size ≤ G ∧ G < lo ∧ OutI w' lo G C.f8.length bs M ∧ bs.length = C.f8.length ∧ ReachOk C M ∧ Below w.heap.size w w' := by
  have HR := Lib.hid h
  obtain ⟨l1, l8, l9, l10, l11⟩ := h.len
  clear h
  have hmk1 := fun W => run_make_row' (P := Try.prog) 48 50 (.slice none 0 0) 24 Try.underlying48 (by kernel_rfl) rfl .i64 .i64 C.f8.length (by omega) (by omega) W
  have hmk3 := fun W => run_make_row' (P := Try.prog) 50 4 (.bool false) 1 Try.underlying50 (by kernel_rfl) rfl .i64 .i64 C.f8.length (by omega) (by omega) W
  simp only [made_rep] at hmk1 hmk3
  have H0 := Lib.hid (show ((w.alloc (Obj.cells #[.int .i64 C.f0, .slice A1 C.f1.length c1, .int .i64 C.f2, .int .i64 C.f3, .int .i64 C.f4, .int .i64 C.f5, .int .i64 C.f6, .int .i64 C.f7, .slice A8 C.f8.length c8, .slice A9 C.f9.length c9, .slice A10 C.f10.length c10, .slice A11 C.f11.length c11] 29)).alloc (Obj.cells (Array.replicate C.f8.length (Value.slice none 0 0)) 50)).heap[w.heap.size]? = some (Obj.cells #[.int .i64 C.f0, .slice A1 C.f1.length c1, .int .i64 C.f2, .int .i64 C.f3, .int .i64 C.f4, .int .i64 C.f5, .int .i64 C.f6, .int .i64 C.f7, .slice A8 C.f8.length c8, .slice A9 C.f9.length c9, .slice A10 C.f10.length c10, .slice A11 C.f11.length c11] 29) from blk_alloc (blk_new w _) _)
  have H1 := Lib.hid (show ((w.alloc (Obj.cells #[.int .i64 C.f0, .slice A1 C.f1.length c1, .int .i64 C.f2, .int .i64 C.f3, .int .i64 C.f4, .int .i64 C.f5, .int .i64 C.f6, .int .i64 C.f7, .slice A8 C.f8.length c8, .slice A9 C.f9.length c9, .slice A10 C.f10.length c10, .slice A11 C.f11.length c11] 29)).alloc (Obj.cells (Array.replicate C.f8.length (Value.slice none 0 0)) 50)).heap[w.heap.size + 1]? = some (Obj.cells (Array.replicate C.f8.length (Value.slice none 0 0)) 50) from blk_new_at _ _ (by simp))
  have HB := Lib.hid (show Below w.heap.size w ((w.alloc (Obj.cells #[.int .i64 C.f0, .slice A1 C.f1.length c1, .int .i64 C.f2, .int .i64 C.f3, .int .i64 C.f4, .int .i64 C.f5, .int .i64 C.f6, .int .i64 C.f7, .slice A8 C.f8.length c8, .slice A9 C.f9.length c9, .slice A10 C.f10.length c10, .slice A11 C.f11.length c11] 29)).alloc (Obj.cells (Array.replicate C.f8.length (Value.slice none 0 0)) 50)) from ((Below.refl _ _).alloc (Nat.le_refl _) _).alloc (by simp) _)
  have HSV := Lib.hid (show ((w.alloc (Obj.cells #[.int .i64 C.f0, .slice A1 C.f1.length c1, .int .i64 C.f2, .int .i64 C.f3, .int .i64 C.f4, .int .i64 C.f5, .int .i64 C.f6, .int .i64 C.f7, .slice A8 C.f8.length c8, .slice A9 C.f9.length c9, .slice A10 C.f10.length c10, .slice A11 C.f11.length c11] 29)).alloc (Obj.cells (Array.replicate C.f8.length (Value.slice none 0 0)) 50)).heap.size = w.heap.size + 1 + 1 by simp)
  go_enter Try.func28, Try.ntmps28
  obtain ⟨k0, k1, k2, k3, k4, k5, k6, k7, k8, k9, k10, k11⟩ := cfg_cells H0.out
  go_wp2_with fail
  clear k0 k1 k2 k3 k4 k5 k6 k7 k8 k9 k10 k11 hmk1
  have HOU := Lib.hid (show OutI ((w.alloc (Obj.cells #[.int .i64 C.f0, .slice A1 C.f1.length c1, .int .i64 C.f2, .int .i64 C.f3, .int .i64 C.f4, .int .i64 C.f5, .int .i64 C.f6, .int .i64 C.f7, .slice A8 C.f8.length c8, .slice A9 C.f9.length c9, .slice A10 C.f10.length c10, .slice A11 C.f11.length c11] 29)).alloc (Obj.cells (Array.replicate C.f8.length (Value.slice none 0 0)) 50)) (w.heap.size + 1 + 1) (w.heap.size + 1) C.f8.length [] (M0 C.f8.length 0) from ⟨by have := H1.out; rw [List.map_nil, List.nil_append, List.length_nil, Nat.sub_zero, List.toArray_replicate]; exact this, rfl, by simp, fun i b h => by simp at h, List.nodup_nil⟩)
  generalize hV0 : ((w.alloc (Obj.cells #[.int .i64 C.f0, .slice A1 C.f1.length c1, .int .i64 C.f2, .int .i64 C.f3, .int .i64 C.f4, .int .i64 C.f5, .int .i64 C.f6, .int .i64 C.f7, .slice A8 C.f8.length c8, .slice A9 C.f9.length c9, .slice A10 C.f10.length c10, .slice A11 C.f11.length c11] 29)).alloc (Obj.cells (Array.replicate C.f8.length (Value.slice none 0 0)) 50)) = V0 at *
  clear hV0 H1
  go_loopw [5] (fun i wr => ∃ (k : Nat) (bs : List Nat), k ≤ C.f8.length ∧ i = .int .i64 k ∧ Hid (bs.length = k) ∧ Hid (OutI wr (w.heap.size + 1 + 1) (w.heap.size + 1) C.f8.length bs (M0 C.f8.length k)) ∧ Hid (wr.heap[w.heap.size]? = some (Obj.cells #[.int .i64 C.f0, .slice A1 C.f1.length c1, .int .i64 C.f2, .int .i64 C.f3, .int .i64 C.f4, .int .i64 C.f5, .int .i64 C.f6, .int .i64 C.f7, .slice A8 C.f8.length c8, .slice A9 C.f9.length c9, .slice A10 C.f10.length c10, .slice A11 C.f11.length c11] 29)) ∧ Hid (Below w.heap.size w wr) ∧ Hid (w.heap.size + 1 + 1 ≤ wr.heap.size)) (fun i _ => C.f8.length - (intOf i).toNat)
  case atStart => exact ⟨0, [], by omega, rfl, Lib.hid rfl, HOU, H0, HB, Lib.hid (Nat.le_of_eq HSV.out.symm)⟩
  case round =>
    clear HOU H0 HB HSV
    obtain ⟨k, bs, hk, rfl, HBL, HOU, H0, HB, HSZ⟩ := hrel
    obtain ⟨WI, rfl⟩ : ∃ W : World, W = wr := ⟨_, rfl⟩
    by_cases hlt : k < C.f8.length
    · have g1 : WI.cell? ⟨w.heap.size + 1, k, none⟩ = some (.slice none 0 0) := by
        rw [blk_cell HOU.out.blk k, List.getElem?_toArray, List.getElem?_append_right (by rw [List.length_map]; have := HBL.out; omega), List.getElem?_replicate, if_pos (by rw [List.length_map]; have := HBL.out; omega)]
      have g2 : WI.frozen? ⟨w.heap.size + 1, k, none⟩ = false := blk_frozen HOU.out.blk k
      have hGs : w.heap.size + 1 < WI.heap.size := blk_lt HOU.out.blk
      have HXG := Lib.hid (show (WI.setCell ⟨w.heap.size + 1, k, none⟩ (.slice (some ⟨WI.heap.size, 0, none⟩) C.f8.length C.f8.length)).heap[w.heap.size + 1]? = _ from blk_set HOU.out.blk k (.slice (some ⟨WI.heap.size, 0, none⟩) C.f8.length C.f8.length))
      have hxs : (WI.setCell ⟨w.heap.size + 1, k, none⟩ (.slice (some ⟨WI.heap.size, 0, none⟩) C.f8.length C.f8.length)).heap.size = WI.heap.size := World.size_setCell _ _ _
      have g3 : ((WI.setCell ⟨w.heap.size + 1, k, none⟩ (.slice (some ⟨WI.heap.size, 0, none⟩) C.f8.length C.f8.length)).alloc (Obj.cells (Array.replicate C.f8.length (Value.bool false)) 4)).cell? ⟨w.heap.size + 1, k, none⟩ = some (.slice (some ⟨WI.heap.size, 0, none⟩) C.f8.length C.f8.length) := by
        rw [blk_cell (blk_alloc HXG.out _) k, Array.getElem?_setIfInBounds]
        simp only [List.size_toArray, List.length_append, List.length_map, List.length_replicate, ↓reduceIte]
        rw [if_pos (by have := HBL.out; omega)]
      have HRW := Lib.hid (show ((WI.setCell ⟨w.heap.size + 1, k, none⟩ (.slice (some ⟨WI.heap.size, 0, none⟩) C.f8.length C.f8.length)).alloc (Obj.cells (Array.replicate C.f8.length (Value.bool false)) 4)).heap[WI.heap.size]? = some (Obj.cells (Array.replicate C.f8.length (Value.bool false)) 4) from blk_new_at _ _ hxs)
      have g4 : ((WI.setCell ⟨w.heap.size + 1, k, none⟩ (.slice (some ⟨WI.heap.size, 0, none⟩) C.f8.length C.f8.length)).alloc (Obj.cells (Array.replicate C.f8.length (Value.bool false)) 4)).cell? ⟨WI.heap.size, k, none⟩ = some (.bool false) := by
        rw [blk_cell HRW.out k, Array.getElem?_replicate, if_pos hlt]
      have g5 : ((WI.setCell ⟨w.heap.size + 1, k, none⟩ (.slice (some ⟨WI.heap.size, 0, none⟩) C.f8.length C.f8.length)).alloc (Obj.cells (Array.replicate C.f8.length (Value.bool false)) 4)).frozen? ⟨WI.heap.size, k, none⟩ = false := blk_frozen HRW.out k
      have HNEW := Lib.hid (show OutI ((WI.setCell ⟨w.heap.size + 1, k, none⟩ (.slice (some ⟨WI.heap.size, 0, none⟩) C.f8.length C.f8.length)).alloc (Obj.cells ((Array.replicate C.f8.length (Value.bool false)).setIfInBounds k (Value.bool true)) 4)) (w.heap.size + 1 + 1) (w.heap.size + 1) C.f8.length (bs ++ [WI.heap.size]) (M0 C.f8.length (k + 1)) from by
        have := HOU.out.snoc (V := (WI.setCell ⟨w.heap.size + 1, k, none⟩ (.slice (some ⟨WI.heap.size, 0, none⟩) C.f8.length C.f8.length)).alloc (Obj.cells ((Array.replicate C.f8.length (Value.bool false)).setIfInBounds k (Value.bool true)) 4)) (seen := (List.replicate C.f8.length false).set k true) HBL.out hlt (blk_alloc HXG.out _) (fun i hi h1 => (keep_alloc ((KeepBut.refl WI (w.heap.size + 1) none).set_ k _) _).2 i hi h1 (by simp)) HSZ.out (by omega) (by rw [blk_new_at _ _ hxs, List.map_set, List.map_replicate, ← List.setIfInBounds_toArray, List.toArray_replicate]) (by simp)
        have e : M0 C.f8.length (k + 1) = M0 C.f8.length k ++ [(List.replicate C.f8.length false).set k true] := by simp [M0, List.range_succ]
        rw [e]
        exact this)
      have H0n := Lib.hid (blk_alloc (blk_far H0.out (p := ⟨w.heap.size + 1, k, none⟩) (by simp) (.slice (some ⟨WI.heap.size, 0, none⟩) C.f8.length C.f8.length)) (Obj.cells ((Array.replicate C.f8.length (Value.bool false)).setIfInBounds k (Value.bool true)) 4))
      have HBn := Lib.hid ((HB.out.setCell (p := ⟨w.heap.size + 1, k, none⟩) (by simp) (.slice (some ⟨WI.heap.size, 0, none⟩) C.f8.length C.f8.length)).alloc (by rw [hxs]; exact HB.out.size) (Obj.cells ((Array.replicate C.f8.length (Value.bool false)).setIfInBounds k (Value.bool true)) 4))
      go_wp2_with fail
      go_roundw
      case rel => exact ⟨k + 1, bs ++ [WI.heap.size], by omega, by go_num, Lib.hid (by rw [List.length_append, HBL.out]; rfl), HNEW, H0n, HBn, Lib.hid (by rw [World.size_alloc, World.size_setCell]; have := HSZ.out; omega)⟩
      case measure => simp [intOf]; omega
    · obtain rfl : k = C.f8.length := by omega
      have HREF := Lib.hid (show Ref C (Rk (nxOf C C.f11) · 0 ·) (M0 C.f8.length C.f8.length) from by
        have hg : ∀ i, i < C.f8.length → ∀ j, ((M0 C.f8.length C.f8.length).getD i []).getD j false = true ↔ j = i := by
          intro i hi j
          rw [M0_at hi, getD_set (by simpa using hi)]
          by_cases h : j = i
          · simp [h]
          · rw [if_neg h]
            constructor
            · intro h2
              rw [List.getD_eq_getElem?_getD, List.getElem?_replicate] at h2
              split at h2 <;> cases h2
            · intro h2; exact absurd h2 h
        exact ⟨fun i hi j hj => by obtain rfl := (hg i hi j).1 hj; exact .refl, fun i hi j hj => (hg i hi j).2 hj⟩)
      have HBS : Hid (∀ i b, bs[i]? = some b → b < WI.heap.size) := Lib.hid (fun i b h => blk_lt (HOU.out.row i b h).2.2)
      clear hmk3 hlt hk
      go_wp2_with fail
      go_loopw [6] (fun i wr => ∃ (r : Nat) (M : List (List Bool)), r ≤ C.f8.length ∧ i = .int .i64 r ∧ Hid (OutI wr (w.heap.size + 1 + 1) (w.heap.size + 1) C.f8.length bs M) ∧ Hid (Ref C (fun i j => Rk (nxOf C C.f11) i r j) M) ∧ Hid (wr.heap[w.heap.size]? = some (Obj.cells #[.int .i64 C.f0, .slice A1 C.f1.length c1, .int .i64 C.f2, .int .i64 C.f3, .int .i64 C.f4, .int .i64 C.f5, .int .i64 C.f6, .int .i64 C.f7, .slice A8 C.f8.length c8, .slice A9 C.f9.length c9, .slice A10 C.f10.length c10, .slice A11 C.f11.length c11] 29)) ∧ Hid (Below w.heap.size w wr) ∧ Hid (WI.heap.size ≤ wr.heap.size)) (fun i _ => C.f8.length - (intOf i).toNat)
      case atStart => exact ⟨0, _, by omega, rfl, HOU, HREF, H0, HB, Lib.hid (Nat.le_refl _)⟩
      case round =>
        clear HOU HREF H0 HB HSZ
        obtain ⟨r, M, hr, rfl, HOU, HREF, H0, HB, HSZ⟩ := hrel
        by_cases hrt : r < C.f8.length
        · go_wp2_with fail
          go_loopw [7] (fun i wr => ∃ (k : Nat) (M : List (List Bool)), k ≤ C.f11.length ∧ i = .int .i64 k ∧ Hid (OutI wr (w.heap.size + 1 + 1) (w.heap.size + 1) C.f8.length bs M) ∧ Hid (Ref C (S1 C r k) M) ∧ Hid (wr.heap[w.heap.size]? = some (Obj.cells #[.int .i64 C.f0, .slice A1 C.f1.length c1, .int .i64 C.f2, .int .i64 C.f3, .int .i64 C.f4, .int .i64 C.f5, .int .i64 C.f6, .int .i64 C.f7, .slice A8 C.f8.length c8, .slice A9 C.f9.length c9, .slice A10 C.f10.length c10, .slice A11 C.f11.length c11] 29)) ∧ Hid (Below w.heap.size w wr) ∧ Hid (WI.heap.size ≤ wr.heap.size)) (fun i _ => C.f11.length - (intOf i).toNat)
          case atStart => exact ⟨0, M, by omega, rfl, HOU, Lib.hid (HREF.out.weak fun i j _ h => by rcases h with h | ⟨x, hx, _⟩; exact h; simp at hx), H0, HB, HSZ⟩
          case round =>
            clear HOU HREF H0 HB HSZ M
            obtain ⟨k, M, hk, rfl, HOU, HREF, H0, HB, HSZ⟩ := hrel
            obtain ⟨WO, rfl⟩ : ∃ W : World, W = wr := ⟨_, rfl⟩
            have k11 := (cfg_cells H0.out).2.2.2.2.2.2.2.2.2.2.2
            by_cases hlt : k < C.f11.length
            · obtain ⟨ad, x, Ax, cx, e11, x0, x1, x2, hcx, HXR, HV⟩ := at_K HR.out.2.2.2.2.2 k hlt
              subst e11
              replace x0 := (HB.out.cell (World.block_lt_of_cell? w _ x0)).trans x0
              replace x1 := (HB.out.cell (World.block_lt_of_cell? w _ x1)).trans x1
              replace x2 := (HB.out.cell (World.block_lt_of_cell? w _ x2)).trans x2
              have hxl : x.f1.length ≤ 9223372036854775807 := HXR.out.2.1
              have hb := (Below.refl WO.heap.size WO).alloc (Nat.le_refl _) (Obj.cells #[.int .i64 x.f0, .slice Ax x.f1.length cx, .int .i64 x.f2] 61)
              replace HOU := Lib.hid (HOU.out.below hb)
              replace H0 := Lib.hid (blk_keep hb H0.out)
              replace HB := Lib.hid (below_step HB.out hb)
              have HLB := Lib.hid (blk_new WO (Obj.cells #[.int .i64 x.f0, .slice Ax x.f1.length cx, .int .i64 x.f2] 61))
              have HSZ2 := Lib.hid (show WI.heap.size ≤ (WO.alloc (Obj.cells #[.int .i64 x.f0, .slice Ax x.f1.length cx, .int .i64 x.f2] 61)).heap.size from Nat.le_trans HSZ.out hb.size)
              have HLS2 := Lib.hid HSZ.out
              have HLS := Lib.hid (show w.heap.size < WO.heap.size from by have := blk_lt H0.out; rw [World.size_alloc] at this; have := blk_lt HOU.out.blk; rw [World.size_alloc] at this; omega)
              clear hb
              obtain ⟨k0, k1, k2, k3, k4, k5, k6, k7, k8, k9, k10, k11'⟩ := cfg_cells H0.out
              have y0 := blk_cell HLB.out 0
              go_wp2_with fail
              obtain ⟨fv, hfv⟩ : ∃ a, a = rpartW C x.f0 := ⟨_, rfl⟩
              refine (rpart_calls _ _ _ _ _ _ _ _ _ _ C _ (HR.out.below HB.out) x.f0).mono ?_
              rintro e W1 ⟨rfl, hb⟩
              rw [← hfv]
              have HFV := Lib.hid hfv
              obtain ⟨f0, hf0⟩ : ∃ b, b = (partW C x.f0).2 := ⟨_, rfl⟩
              have hd0 : decide (0 ≤ fv) = f0 := by
                rw [hfv, hf0, rpartW]
                cases hc : (partW C x.f0).2
                · rfl
                · have := part_bd hc
                  rw [if_pos rfl]; exact decide_eq_true this.1
              have HF0 := Lib.hid hf0
              clear k0 k1 k2 k3 k4 k5 k6 k7 k8 k9 k10 k11 k11' y0 x0 x1 x2 hfv hf0
              replace HOU := Lib.hid (HOU.out.below hb)
              replace H0 := Lib.hid (blk_keep hb H0.out)
              replace HLB := Lib.hid (blk_keep hb HLB.out)
              replace HB := Lib.hid (below_step HB.out hb)
              replace HSZ := Lib.hid (Nat.le_trans HSZ2.out hb.size)
              clear hb HSZ2
              go_wp2_with fail
              clear hd0
              go_loopw [10, 11] (fun v10 v11 wi => ∃ (j : Nat), j ≤ x.f1.length ∧ v11 = .int .i64 j ∧ v10 = .bool (f0 && (x.f1.take j).all (fun n => (partW C n).2)) ∧ Hid (Below W1.heap.size W1 wi)) (fun _ v11 _ => x.f1.length - (intOf v11).toNat)
              case atStart => exact ⟨0, by omega, rfl, by simp, Lib.hid (Below.refl _ _)⟩
              case round =>
                obtain ⟨j, hj, rfl, rfl, HBI⟩ := hrel
                obtain ⟨WJ, rfl⟩ : ∃ W : World, W = wr := ⟨_, rfl⟩
                have y1 := blk_cell (blk_keep HBI.out HLB.out) 1
                by_cases hjt : j < x.f1.length
                · have HBw := Lib.hid (below_step HB.out HBI.out)
                  obtain ⟨adx, n, eA, n0, HN⟩ := at_I (Kd.C_below HXR.out HBw.out) j hjt
                  subst eA
                  obtain ⟨k0, k1, k2, k3, k4, k5, k6, k7, k8, k9, k10, k11⟩ := cfg_cells (blk_keep HBI.out H0.out)
                  obtain ⟨fj, hfj⟩ : ∃ b, b = (f0 && (x.f1.take j).all (fun n => (partW C n).2)) := ⟨_, rfl⟩
                  have HFJ := Lib.hid hfj
                  rw [← hfj]
                  clear hfj
                  obtain ⟨tv, htv⟩ : ∃ a, a = rpartW C n := ⟨_, rfl⟩
                  obtain ⟨tb, htb⟩ : ∃ b, b = (partW C n).2 := ⟨_, rfl⟩
                  have hd1 := Lib.hid (show decide (0 ≤ tv) = tb by
                    rw [htv, htb, rpartW]
                    cases hc : (partW C n).2
                    · rfl
                    · have := part_bd hc
                      rw [if_pos rfl]; exact decide_eq_true this.1)
                  have HPN := Lib.hid htv
                  have hnew := Lib.hid (show (f0 && (x.f1.take (j + 1)).all (fun n => (partW C n).2)) = (fj && tb) by rw [List.take_add_one, HN.out, List.all_append, ← Bool.and_assoc, HFJ.out, htb]; simp)
                  clear htv htb
                  go_wp2_with fail
                  apply region_z (N := 8) (ds := []) #[false, false, false, false, false, false, false, false]
                  · kernel_rfl
                  · rfl
                  · rfl
                  · intro Wd hS
                    refine take_ (i := 0) (N := some 67) (v := ?_) (a' := ?_) #[true, false, false, false, false, false, false, false] rfl rfl (by kernel_rfl) (fun _ _ _ h => by cases h.1) (Or.inl ⟨by rfl, ?_⟩) hS ?_ ?_
                    rotate_left
                    · intro w' hb
                      have s0 := hb.cell k0
                      have s1 := hb.cell k1
                      have s2 := hb.cell k2
                      have s3 := hb.cell k3
                      have s4 := hb.cell k4
                      have s5 := hb.cell k5
                      have s6 := hb.cell k6
                      have s7 := hb.cell k7
                      have s8 := hb.cell k8
                      have s9 := hb.cell k9
                      have s10 := hb.cell k10
                      have s11 := hb.cell k11
                      go_simp
                      with_reducible rfl
                    rotate_left
                    · simp only [Act.put, List.setIfInBounds_toArray, List.set_cons_zero, List.set_cons_succ]
                      rfl
                    refine pure_ (i := 1) (N := some 68) (v := ?_) (a' := ?_) #[true, true, false, false, false, false, false, false] rfl rfl (by kernel_rfl) (fun _ _ _ h => by cases h.1) (Or.inl ⟨by rfl, ?_⟩) ?_ ?_
                    rotate_left
                    · intro w'
                      go_simp
                      with_reducible rfl
                    rotate_left
                    · simp only [Act.put, List.setIfInBounds_toArray, List.set_cons_zero, List.set_cons_succ]
                      rfl
                    refine take_ (i := 2) (N := some 69) (v := ?_) (a' := ?_) #[true, true, true, false, false, false, false, false] rfl rfl (by kernel_rfl) (fun _ _ _ h => by cases h.1) (Or.inl ⟨by rfl, ?_⟩) hS ?_ ?_
                    rotate_left
                    · intro w' hb
                      have s0 := hb.cell y1
                      go_simp
                      with_reducible rfl
                    rotate_left
                    · simp only [Act.put, List.setIfInBounds_toArray, List.set_cons_zero, List.set_cons_succ]
                      rfl
                    refine pure_ (i := 3) (N := some 70) (v := ?_) (a' := ?_) #[true, true, true, true, false, false, false, false] rfl rfl (by kernel_rfl) (fun _ _ _ h => by cases h.1) (Or.inl ⟨by rfl, ?_⟩) ?_ ?_
                    rotate_left
                    · intro w'
                      go_simp
                      with_reducible rfl
                    rotate_left
                    · simp only [Act.put, List.setIfInBounds_toArray, List.set_cons_zero, List.set_cons_succ]
                      rfl
                    refine pure_ (i := 4) (N := some 71) (v := ?_) (a' := ?_) #[true, true, true, true, true, false, false, false] rfl rfl (by kernel_rfl) (fun _ _ _ h => by cases h.1) (Or.inl ⟨by rfl, ?_⟩) ?_ ?_
                    rotate_left
                    · intro w'
                      go_simp
                      with_reducible rfl
                    rotate_left
                    · simp only [Act.put, List.setIfInBounds_toArray, List.set_cons_zero, List.set_cons_succ]
                      rfl
                    refine take_ (i := 5) (N := some 72) (v := ?_) (a' := ?_) #[true, true, true, true, true, true, false, false] rfl rfl (by kernel_rfl) (fun _ _ _ h => by cases h.1) (Or.inl ⟨by rfl, ?_⟩) hS ?_ ?_
                    rotate_left
                    · intro w' hb
                      have s0 := hb.cell n0
                      go_simp
                      with_reducible rfl
                    rotate_left
                    · simp only [Act.put, List.setIfInBounds_toArray, List.set_cons_zero, List.set_cons_succ]
                      rfl
                    refine one_ (i := 6) (N := some 73) #[true, true, true, true, true, true, true, false] rfl rfl (by kernel_rfl) (by simp) (fun K hK => ?_)
                    go_simp
                    refine (rpart_calls _ _ _ _ _ _ _ _ _ _ C _ ((HR.out.below HBw.out).below hS) n).mono ?_
                    rintro e v6 ⟨rfl, hb⟩
                    rw [← HPN.out]
                    have hS6 : Bz WJ v6 := Below.trans hS (hb.mono hS.size)
                    refine hK.out _ _ hS6 (fun _ => ?_)
                    clear hK K hb hS
                    have hS := hS6
                    refine pure_ (i := 7) (N := some 12) (v := ?_) (a' := ?_) #[true, true, true, true, true, true, true, true] rfl rfl (by kernel_rfl) (fun _ _ _ h => by cases h.1) (Or.inl ⟨by rfl, ?_⟩) ?_ ?_
                    rotate_left
                    · intro w'
                      go_simp
                      with_reducible rfl
                    rotate_left
                    · simp only [Act.put, List.setIfInBounds_toArray, List.set_cons_zero, List.set_cons_succ]
                      rfl
                    refine done_ (by kernel_rfl) ?_
                    exact ⟨rfl, rfl, hS⟩
                  intro W9 hb
                  have HB9 := Lib.hid (below_step HBI.out hb)
                  have e1 := hd1.out
                  clear hb k0 k1 k2 k3 k4 k5 k6 k7 k8 k9 k10 k11 n0 y1
                  cases fj
                  · go_wp2_with fail
                    go_roundw
                    case rel => exact ⟨j + 1, by omega, by go_num, by rw [hnew.out]; rfl, HB9⟩
                    case measure => simp [intOf]; omega
                  · go_wp2_with fail
                    go_roundw
                    case rel => exact ⟨j + 1, by omega, by go_num, by rw [hnew.out]; rfl, HB9⟩
                    case measure => simp [intOf]; omega
                · have hfull : x.f1.take j = x.f1 := List.take_of_length_le (by omega)
                  rw [hfull]
                  obtain ⟨ok, hok⟩ : ∃ b, b = (f0 && x.f1.all (fun n => (partW C n).2)) := ⟨_, rfl⟩
                  rw [← hok]
                  have HOKL := Lib.hid (show okL C x = ok by rw [hok, HF0.out]; rfl)
                  clear hok
                  have HBW := Lib.hid (below_step HB.out HBI.out)
                  have HOUW := Lib.hid (HOU.out.below HBI.out)
                  have HLBW := Lib.hid (blk_keep HBI.out HLB.out)
                  have H0W := Lib.hid (blk_keep HBI.out H0.out)
                  have HSZW := Lib.hid (Nat.le_trans HSZ.out HBI.out.size)
                  cases ok
                  case false =>
                    clear hfull
                    go_wp2_with fail
                    go_loopw [13] (fun i wi => i = .int .i64 0 ∧ wi = WJ) (fun _ _ => 0)
                    case atStart => exact ⟨rfl, rfl⟩
                    case round =>
                      obtain ⟨rfl, hwj⟩ := hrel
                      subst hwj
                      have y1 := blk_cell HLBW.out 1
                      have HNS := Lib.hid (HREF.out.weak (T := S1 C r (k + 1)) fun i j _ h => by
                        rcases s1_link HV.out h with ⟨ho, _⟩ | h
                        · rw [HOKL.out] at ho; cases ho
                        · exact h)
                      by_cases hx0 : 0 < x.f1.length
                      · go_wp2_with fail
                        go_roundw
                        case rel => exact ⟨k + 1, M, by omega, by go_num, HOUW, HNS, H0W, HBW, HSZW⟩
                        case measure => simp [intOf]; omega
                      · go_wp2_with fail
                        go_roundw
                        case rel => exact ⟨k + 1, M, by omega, by go_num, HOUW, HNS, H0W, HBW, HSZW⟩
                        case measure => simp [intOf]; omega
                  have hok := HOKL.out
                  have HALL := Lib.hid (show (partW C x.f0).2 = true ∧ ∀ n ∈ x.f1, (partW C n).2 = true by
                    unfold okL at hok
                    rw [Bool.and_eq_true, List.all_eq_true] at hok
                    exact hok)
                  obtain ⟨ff, hff⟩ : ∃ f : Nat, (f : Int) = fv := ⟨fv.toNat, by rw [HFV.out, rpartW, if_pos HALL.out.1]; have := (part_bd HALL.out.1).1; omega⟩
                  have hfl : ff < C.f8.length := by have h := part_bd HALL.out.1; rw [HFV.out, rpartW, if_pos HALL.out.1] at hff; omega
                  have HFL := Lib.hid (show fromL C x = ff by rw [HFV.out, rpartW, if_pos HALL.out.1] at hff; unfold fromL; omega)
                  subst hff
                  clear hfull hok
                  go_wp2_with fail
                  go_loopw [13] (fun i wi => ∃ (j : Nat) (M : List (List Bool)), j ≤ x.f1.length ∧ i = .int .i64 j ∧ Hid (OutI wi (w.heap.size + 1 + 1) (w.heap.size + 1) C.f8.length bs M) ∧ Hid (Ref C (S2 C r k x j) M) ∧ Hid (wi.heap[w.heap.size]? = some (Obj.cells #[.int .i64 C.f0, .slice A1 C.f1.length c1, .int .i64 C.f2, .int .i64 C.f3, .int .i64 C.f4, .int .i64 C.f5, .int .i64 C.f6, .int .i64 C.f7, .slice A8 C.f8.length c8, .slice A9 C.f9.length c9, .slice A10 C.f10.length c10, .slice (some ad) C.f11.length c11] 29)) ∧ Hid (wi.heap[WO.heap.size]? = some (Obj.cells #[.int .i64 x.f0, .slice Ax x.f1.length cx, .int .i64 x.f2] 61)) ∧ Hid (Below w.heap.size w wi) ∧ Hid (WI.heap.size ≤ wi.heap.size)) (fun i _ => x.f1.length - (intOf i).toNat)
                  case atStart => exact ⟨0, M, by omega, rfl, HOUW, Lib.hid (HREF.out.weak fun i j _ h => by rcases h with h | ⟨q, hq, _⟩; exact h; simp at hq), H0W, HLBW, HBW, HSZW⟩
                  case round =>
                    clear HOUW HLBW H0W HBW HSZW HBI HREF HOU H0 HB HLB M
                    obtain ⟨j, M, hj, rfl, HOU, HREF, H0, HLB, HBw, HSZ⟩ := hrel
                    obtain ⟨WJ, rfl⟩ : ∃ W : World, W = wr := ⟨_, rfl⟩
                    have y1 := blk_cell HLB.out 1
                    by_cases hjt : j < x.f1.length
                    · obtain ⟨adx, n, eA, n0, HN⟩ := at_I (Kd.C_below HXR.out HBw.out) j hjt
                      subst eA
                      obtain ⟨k0, k1, k2, k3, k4, k5, k6, k7, k8, k9, k10, k11⟩ := cfg_cells H0.out
                      have hpv := HALL.out.2 n (List.mem_of_getElem? HN.out)
                      obtain ⟨tt, htt⟩ : ∃ t : Nat, (t : Int) = rpartW C n := ⟨(rpartW C n).toNat, by rw [rpartW, if_pos hpv]; have := (part_bd hpv).1; omega⟩
                      have htl : tt < C.f8.length := by have h := part_bd hpv; rw [rpartW, if_pos hpv] at htt; omega
                      have HQ := Lib.hid (show (toL C x)[j]? = some (tt : Int) by unfold toL; rw [List.getElem?_map, HN.out, htt, rpartW, if_pos hpv]; rfl)
                      have HPN := Lib.hid htt
                      have HED := Lib.hid (show (tt : Int) ∈ (nxOf C C.f11).getD ff [] by rw [← HFL.out]; exact nx_mem HOKL.out (List.mem_of_getElem? HQ.out) C.f11 (List.mem_of_getElem? HV.out) _ (by simp))
                      clear hpv htt
                      go_wp2_with fail
                      apply region_z (N := 8) (ds := []) #[false, false, false, false, false, false, false, false]
                      · kernel_rfl
                      · rfl
                      · rfl
                      · intro Wd hS
                        refine take_ (i := 0) (N := some 89) (v := ?_) (a' := ?_) #[true, false, false, false, false, false, false, false] rfl rfl (by kernel_rfl) (fun _ _ _ h => by cases h.1) (Or.inl ⟨by rfl, ?_⟩) hS ?_ ?_
                        rotate_left
                        · intro w' hb
                          have s0 := hb.cell k0
                          have s1 := hb.cell k1
                          have s2 := hb.cell k2
                          have s3 := hb.cell k3
                          have s4 := hb.cell k4
                          have s5 := hb.cell k5
                          have s6 := hb.cell k6
                          have s7 := hb.cell k7
                          have s8 := hb.cell k8
                          have s9 := hb.cell k9
                          have s10 := hb.cell k10
                          have s11 := hb.cell k11
                          go_simp
                          with_reducible rfl
                        rotate_left
                        · simp only [Act.put, List.setIfInBounds_toArray, List.set_cons_zero, List.set_cons_succ]
                          rfl
                        refine pure_ (i := 1) (N := some 90) (v := ?_) (a' := ?_) #[true, true, false, false, false, false, false, false] rfl rfl (by kernel_rfl) (fun _ _ _ h => by cases h.1) (Or.inl ⟨by rfl, ?_⟩) ?_ ?_
                        rotate_left
                        · intro w'
                          go_simp
                          with_reducible rfl
                        rotate_left
                        · simp only [Act.put, List.setIfInBounds_toArray, List.set_cons_zero, List.set_cons_succ]
                          rfl
                        refine take_ (i := 2) (N := some 91) (v := ?_) (a' := ?_) #[true, true, true, false, false, false, false, false] rfl rfl (by kernel_rfl) (fun _ _ _ h => by cases h.1) (Or.inl ⟨by rfl, ?_⟩) hS ?_ ?_
                        rotate_left
                        · intro w' hb
                          have s0 := hb.cell y1
                          go_simp
                          with_reducible rfl
                        rotate_left
                        · simp only [Act.put, List.setIfInBounds_toArray, List.set_cons_zero, List.set_cons_succ]
                          rfl
                        refine pure_ (i := 3) (N := some 92) (v := ?_) (a' := ?_) #[true, true, true, true, false, false, false, false] rfl rfl (by kernel_rfl) (fun _ _ _ h => by cases h.1) (Or.inl ⟨by rfl, ?_⟩) ?_ ?_
                        rotate_left
                        · intro w'
                          go_simp
                          with_reducible rfl
                        rotate_left
                        · simp only [Act.put, List.setIfInBounds_toArray, List.set_cons_zero, List.set_cons_succ]
                          rfl
                        refine pure_ (i := 4) (N := some 93) (v := ?_) (a' := ?_) #[true, true, true, true, true, false, false, false] rfl rfl (by kernel_rfl) (fun _ _ _ h => by cases h.1) (Or.inl ⟨by rfl, ?_⟩) ?_ ?_
                        rotate_left
                        · intro w'
                          go_simp
                          with_reducible rfl
                        rotate_left
                        · simp only [Act.put, List.setIfInBounds_toArray, List.set_cons_zero, List.set_cons_succ]
                          rfl
                        refine take_ (i := 5) (N := some 94) (v := ?_) (a' := ?_) #[true, true, true, true, true, true, false, false] rfl rfl (by kernel_rfl) (fun _ _ _ h => by cases h.1) (Or.inl ⟨by rfl, ?_⟩) hS ?_ ?_
                        rotate_left
                        · intro w' hb
                          have s0 := hb.cell n0
                          go_simp
                          with_reducible rfl
                        rotate_left
                        · simp only [Act.put, List.setIfInBounds_toArray, List.set_cons_zero, List.set_cons_succ]
                          rfl
                        refine one_ (i := 6) (N := some 95) #[true, true, true, true, true, true, true, false] rfl rfl (by kernel_rfl) (by simp) (fun K hK => ?_)
                        go_simp
                        refine (rpart_calls _ _ _ _ _ _ _ _ _ _ C _ ((HR.out.below HBw.out).below hS) n).mono ?_
                        rintro e v6 ⟨rfl, hb⟩
                        rw [← HPN.out]
                        have hS6 : Bz WJ v6 := Below.trans hS (hb.mono hS.size)
                        refine hK.out _ _ hS6 (fun _ => ?_)
                        clear hK K hb hS
                        have hS := hS6
                        refine pure_ (i := 7) (N := some 14) (v := ?_) (a' := ?_) #[true, true, true, true, true, true, true, true] rfl rfl (by kernel_rfl) (fun _ _ _ h => by cases h.1) (Or.inl ⟨by rfl, ?_⟩) ?_ ?_
                        rotate_left
                        · intro w'
                          go_simp
                          with_reducible rfl
                        rotate_left
                        · simp only [Act.put, List.setIfInBounds_toArray, List.set_cons_zero, List.set_cons_succ]
                          rfl
                        refine done_ (by kernel_rfl) ?_
                        exact ⟨rfl, rfl, hS⟩
                      intro W9 hb
                      have HBT := Lib.hid (below_step HBw.out hb)
                      have HOU6 := Lib.hid (HOU.out.below hb)
                      have HLB6 := Lib.hid (blk_keep hb HLB.out)
                      have H06 := Lib.hid (blk_keep hb H0.out)
                      have HSZ6 := Lib.hid (Nat.le_trans HSZ.out hb.size)
                      clear hb k0 k1 k2 k3 k4 k5 k6 k7 k8 k9 k10 k11 n0 y1
                      go_wp2_with fail
                      go_loopw [15] (fun i wi => ∃ (i0 : Nat) (M : List (List Bool)), i0 ≤ C.f8.length ∧ i = .int .i64 i0 ∧ Hid (OutI wi (w.heap.size + 1 + 1) (w.heap.size + 1) C.f8.length bs M) ∧ Hid (Ref C (S3 C r k x j tt i0) M) ∧ Hid (wi.heap[w.heap.size]? = some (Obj.cells #[.int .i64 C.f0, .slice A1 C.f1.length c1, .int .i64 C.f2, .int .i64 C.f3, .int .i64 C.f4, .int .i64 C.f5, .int .i64 C.f6, .int .i64 C.f7, .slice A8 C.f8.length c8, .slice A9 C.f9.length c9, .slice A10 C.f10.length c10, .slice (some ad) C.f11.length c11] 29)) ∧ Hid (wi.heap[WO.heap.size]? = some (Obj.cells #[.int .i64 x.f0, .slice (some adx) x.f1.length cx, .int .i64 x.f2] 61)) ∧ Hid (Below w.heap.size w wi) ∧ Hid (WI.heap.size ≤ wi.heap.size)) (fun i _ => C.f8.length - (intOf i).toNat)
                      case atStart => exact ⟨0, M, by omega, rfl, HOU6, Lib.hid (HREF.out.weak fun i j _ h => by rcases h with h | ⟨h, _⟩; exact h; omega), H06, HLB6, HBT, HSZ6⟩
                      case round =>
                        clear HOU6 H06 HLB6 HBT HSZ6 HREF HOU H0 HBw HLB M HSZ
                        obtain ⟨i, M, hi, rfl, HOU, HREF, H0, HLB, HBw, HSZ⟩ := hrel
                        obtain ⟨WK, rfl⟩ : ∃ W : World, W = wr := ⟨_, rfl⟩
                        by_cases hit : i < C.f8.length
                        · obtain ⟨b, hbi, c1, c2, c3, hml⟩ := HOU.out.at2 HBL.out hit
                          have c4 := c2 tt htl
                          have c5 := c2 ff hfl
                          have c6 := c3 tt
                          obtain ⟨m1, hm1⟩ : ∃ m, m = (M.getD i []).getD tt false := ⟨_, rfl⟩
                          obtain ⟨m2, hm2⟩ : ∃ m, m = (M.getD i []).getD ff false := ⟨_, rfl⟩
                          rw [← hm1] at c4
                          rw [← hm2] at c5
                          have hiM : i < M.length := by rw [← HOU.out.len, HBL.out]; exact hit
                          have hbl := HBS.out i b hbi
                          have hne := (HOU.out.row i b hbi).1
                          have HLT := Lib.hid (show b < WO.heap.size by have := HLS2.out; omega)
                          have HNM := Lib.hid (show Ref C (S3 C r k x j tt (i + 1)) (M.set i ((M.getD i []).set tt (m1 || m2))) from by
                            rw [hm1, hm2]
                            refine (HREF.out.step hit hiM (by rw [hml]; exact htl) HED.out (by omega)).weak fun a c ha h => ?_
                            rcases h with h | ⟨h1, h2, h3⟩
                            · exact .inl (.inl h)
                            · by_cases hai : a = i
                              · subst hai
                                rw [HFL.out] at h3
                                exact .inr ⟨rfl, h2, .inl (.inl (.inl h3))⟩
                              · exact .inl (.inr ⟨by omega, h2, h3⟩))
                          have HBI := Lib.hid hbi
                          have HNE := Lib.hid hne
                          clear hm1 hm2 c2 c3 hml hiM hbl hne hbi
                          go_wp2_with fail
                          cases m1
                          · simp only [Bool.false_or] at HNM
                            apply region_y (fun w' => ∃ Wd, Bz WK Wd ∧ w' = Wd.setCell ⟨b, tt, none⟩ (.bool m2)) (N := 23) (ds := [22]) #[false, false, false, false, false, false, false, false, false, false, false, false, false, false, false, false, false, false, false, false, false, false, false]
                            · kernel_rfl
                            · rfl
                            · rfl
                            · intro Wd hS
                              refine pure_ (i := 0) (N := some 101) (v := ?_) (a' := ?_) #[true, false, false, false, false, false, false, false, false, false, false, false, false, false, false, false, false, false, false, false, false, false, false] rfl rfl (by kernel_rfl) (fun _ _ _ h => by cases h.1) (Or.inl ⟨by rfl, ?_⟩) ?_ ?_
                              rotate_left
                              · intro w'
                                go_simp
                                with_reducible rfl
                              rotate_left
                              · simp only [Act.put, List.setIfInBounds_toArray, List.set_cons_zero, List.set_cons_succ]
                                rfl
                              refine pure_ (i := 1) (N := some 102) (v := ?_) (a' := ?_) #[true, true, false, false, false, false, false, false, false, false, false, false, false, false, false, false, false, false, false, false, false, false, false] rfl rfl (by kernel_rfl) (fun _ _ _ h => by cases h.1) (Or.inl ⟨by rfl, ?_⟩) ?_ ?_
                              rotate_left
                              · intro w'
                                go_simp
                                with_reducible rfl
                              rotate_left
                              · simp only [Act.put, List.setIfInBounds_toArray, List.set_cons_zero, List.set_cons_succ]
                                rfl
                              refine pure_ (i := 2) (N := some 103) (v := ?_) (a' := ?_) #[true, true, true, false, false, false, false, false, false, false, false, false, false, false, false, false, false, false, false, false, false, false, false] rfl rfl (by kernel_rfl) (fun _ _ _ h => by cases h.1) (Or.inl ⟨by rfl, ?_⟩) ?_ ?_
                              rotate_left
                              · intro w'
                                go_simp
                                with_reducible rfl
                              rotate_left
                              · simp only [Act.put, List.setIfInBounds_toArray, List.set_cons_zero, List.set_cons_succ]
                                rfl
                              refine take_ (i := 3) (N := some 104) (v := ?_) (a' := ?_) #[true, true, true, true, false, false, false, false, false, false, false, false, false, false, false, false, false, false, false, false, false, false, false] rfl rfl (by kernel_rfl) (fun _ _ _ h => by cases h.1) (Or.inl ⟨by rfl, ?_⟩) hS ?_ ?_
                              rotate_left
                              · intro w' hb
                                have s0 := hb.cell c1
                                go_simp
                                with_reducible rfl
                              rotate_left
                              · simp only [Act.put, List.setIfInBounds_toArray, List.set_cons_zero, List.set_cons_succ]
                                rfl
                              refine pure_ (i := 4) (N := some 105) (v := ?_) (a' := ?_) #[true, true, true, true, true, false, false, false, false, false, false, false, false, false, false, false, false, false, false, false, false, false, false] rfl rfl (by kernel_rfl) (fun _ _ _ h => by cases h.1) (Or.inl ⟨by rfl, ?_⟩) ?_ ?_
                              rotate_left
                              · intro w'
                                go_simp
                                with_reducible rfl
                              rotate_left
                              · simp only [Act.put, List.setIfInBounds_toArray, List.set_cons_zero, List.set_cons_succ]
                                rfl
                              refine pure_ (i := 5) (N := some 106) (v := ?_) (a' := ?_) #[true, true, true, true, true, true, false, false, false, false, false, false, false, false, false, false, false, false, false, false, false, false, false] rfl rfl (by kernel_rfl) (fun _ _ _ h => by cases h.1) (Or.inl ⟨by rfl, ?_⟩) ?_ ?_
                              rotate_left
                              · intro w'
                                go_simp
                                with_reducible rfl
                              rotate_left
                              · simp only [Act.put, List.setIfInBounds_toArray, List.set_cons_zero, List.set_cons_succ]
                                rfl
                              refine pure_ (i := 6) (N := some 107) (v := ?_) (a' := ?_) #[true, true, true, true, true, true, true, false, false, false, false, false, false, false, false, false, false, false, false, false, false, false, false] rfl rfl (by kernel_rfl) (fun _ _ _ h => by cases h.1) (Or.inl ⟨by rfl, ?_⟩) ?_ ?_
                              rotate_left
                              · intro w'
                                go_simp
                                with_reducible rfl
                              rotate_left
                              · simp only [Act.put, List.setIfInBounds_toArray, List.set_cons_zero, List.set_cons_succ]
                                rfl
                              refine pure_ (i := 7) (N := some 108) (v := ?_) (a' := ?_) #[true, true, true, true, true, true, true, true, false, false, false, false, false, false, false, false, false, false, false, false, false, false, false] rfl rfl (by kernel_rfl) (fun _ _ _ h => by cases h.1) (Or.inl ⟨by rfl, ?_⟩) ?_ ?_
                              rotate_left
                              · intro w'
                                go_simp
                                with_reducible rfl
                              rotate_left
                              · simp only [Act.put, List.setIfInBounds_toArray, List.set_cons_zero, List.set_cons_succ]
                                rfl
                              refine take_ (i := 8) (N := some 109) (v := ?_) (a' := ?_) #[true, true, true, true, true, true, true, true, true, false, false, false, false, false, false, false, false, false, false, false, false, false, false] rfl rfl (by kernel_rfl) (fun _ _ _ h => by cases h.1) (Or.inl ⟨by rfl, ?_⟩) hS ?_ ?_
                              rotate_left
                              · intro w' hb
                                have s0 := hb.cell c1
                                go_simp
                                with_reducible rfl
                              rotate_left
                              · simp only [Act.put, List.setIfInBounds_toArray, List.set_cons_zero, List.set_cons_succ]
                                rfl
                              refine pure_ (i := 9) (N := some 110) (v := ?_) (a' := ?_) #[true, true, true, true, true, true, true, true, true, true, false, false, false, false, false, false, false, false, false, false, false, false, false] rfl rfl (by kernel_rfl) (fun _ _ _ h => by cases h.1) (Or.inl ⟨by rfl, ?_⟩) ?_ ?_
                              rotate_left
                              · intro w'
                                go_simp
                                with_reducible rfl
                              rotate_left
                              · simp only [Act.put, List.setIfInBounds_toArray, List.set_cons_zero, List.set_cons_succ]
                                rfl
                              refine pure_ (i := 10) (N := some 111) (v := ?_) (a' := ?_) #[true, true, true, true, true, true, true, true, true, true, true, false, false, false, false, false, false, false, false, false, false, false, false] rfl rfl (by kernel_rfl) (fun _ _ _ h => by cases h.1) (Or.inl ⟨by rfl, ?_⟩) ?_ ?_
                              rotate_left
                              · intro w'
                                go_simp
                                with_reducible rfl
                              rotate_left
                              · simp only [Act.put, List.setIfInBounds_toArray, List.set_cons_zero, List.set_cons_succ]
                                rfl
                              refine take_ (i := 11) (N := some 112) (v := ?_) (a' := ?_) #[true, true, true, true, true, true, true, true, true, true, true, true, false, false, false, false, false, false, false, false, false, false, false] rfl rfl (by kernel_rfl) (fun _ _ _ h => by cases h.1) (Or.inl ⟨by rfl, ?_⟩) hS ?_ ?_
                              rotate_left
                              · intro w' hb
                                have s0 := hb.cell c4
                                go_simp
                                with_reducible rfl
                              rotate_left
                              · simp only [Act.put, List.setIfInBounds_toArray, List.set_cons_zero, List.set_cons_succ]
                                rfl
                              refine pure_ (i := 12) (N := some 113) (v := ?_) (a' := ?_) #[true, true, true, true, true, true, true, true, true, true, true, true, true, false, false, false, false, false, false, false, false, false, false] rfl rfl (by kernel_rfl) (fun _ _ _ h => by cases h.1) (Or.inl ⟨by rfl, ?_⟩) ?_ ?_
                              rotate_left
                              · intro w'
                                go_simp
                                with_reducible rfl
                              rotate_left
                              · simp only [Act.put, List.setIfInBounds_toArray, List.set_cons_zero, List.set_cons_succ]
                                rfl
                              refine pure_ (i := 13) (N := some 114) (v := ?_) (a' := ?_) #[true, true, true, true, true, true, true, true, true, true, true, true, true, true, false, false, false, false, false, false, false, false, false] rfl rfl (by kernel_rfl) (fun _ _ _ h => by cases h.1) (Or.inl ⟨by rfl, ?_⟩) ?_ ?_
                              rotate_left
                              · intro w'
                                go_simp
                                with_reducible rfl
                              rotate_left
                              · simp only [Act.put, List.setIfInBounds_toArray, List.set_cons_zero, List.set_cons_succ]
                                rfl
                              refine pure_ (i := 14) (N := some 115) (v := ?_) (a' := ?_) #[true, true, true, true, true, true, true, true, true, true, true, true, true, true, true, false, false, false, false, false, false, false, false] rfl rfl (by kernel_rfl) (fun _ _ _ h => by cases h.1) (Or.inl ⟨by rfl, ?_⟩) ?_ ?_
                              rotate_left
                              · intro w'
                                go_simp
                                with_reducible rfl
                              rotate_left
                              · simp only [Act.put, List.setIfInBounds_toArray, List.set_cons_zero, List.set_cons_succ]
                                rfl
                              refine pure_ (i := 15) (N := some 116) (v := ?_) (a' := ?_) #[true, true, true, true, true, true, true, true, true, true, true, true, true, true, true, true, false, false, false, false, false, false, false] rfl rfl (by kernel_rfl) (fun _ _ _ h => by cases h.1) (Or.inl ⟨by rfl, ?_⟩) ?_ ?_
                              rotate_left
                              · intro w'
                                go_simp
                                with_reducible rfl
                              rotate_left
                              · simp only [Act.put, List.setIfInBounds_toArray, List.set_cons_zero, List.set_cons_succ]
                                rfl
                              refine take_ (i := 16) (N := some 117) (v := ?_) (a' := ?_) #[true, true, true, true, true, true, true, true, true, true, true, true, true, true, true, true, true, false, false, false, false, false, false] rfl rfl (by kernel_rfl) (fun _ _ _ h => by cases h.1) (Or.inl ⟨by rfl, ?_⟩) hS ?_ ?_
                              rotate_left
                              · intro w' hb
                                have s0 := hb.cell c1
                                go_simp
                                with_reducible rfl
                              rotate_left
                              · simp only [Act.put, List.setIfInBounds_toArray, List.set_cons_zero, List.set_cons_succ]
                                rfl
                              refine pure_ (i := 17) (N := some 118) (v := ?_) (a' := ?_) #[true, true, true, true, true, true, true, true, true, true, true, true, true, true, true, true, true, true, false, false, false, false, false] rfl rfl (by kernel_rfl) (fun _ _ _ h => by cases h.1) (Or.inl ⟨by rfl, ?_⟩) ?_ ?_
                              rotate_left
                              · intro w'
                                go_simp
                                with_reducible rfl
                              rotate_left
                              · simp only [Act.put, List.setIfInBounds_toArray, List.set_cons_zero, List.set_cons_succ]
                                rfl
                              refine pure_ (i := 18) (N := some 119) (v := ?_) (a' := ?_) #[true, true, true, true, true, true, true, true, true, true, true, true, true, true, true, true, true, true, true, false, false, false, false] rfl rfl (by kernel_rfl) (fun _ _ _ h => by cases h.1) (Or.inl ⟨by rfl, ?_⟩) ?_ ?_
                              rotate_left
                              · intro w'
                                go_simp
                                with_reducible rfl
                              rotate_left
                              · simp only [Act.put, List.setIfInBounds_toArray, List.set_cons_zero, List.set_cons_succ]
                                rfl
                              refine take_ (i := 19) (N := some 120) (v := ?_) (a' := ?_) #[true, true, true, true, true, true, true, true, true, true, true, true, true, true, true, true, true, true, true, true, false, false, false] rfl rfl (by kernel_rfl) (fun _ _ _ h => by cases h.1) (Or.inl ⟨by rfl, ?_⟩) hS ?_ ?_
                              rotate_left
                              · intro w' hb
                                have s0 := hb.cell c5
                                go_simp
                                with_reducible rfl
                              rotate_left
                              · simp only [Act.put, List.setIfInBounds_toArray, List.set_cons_zero, List.set_cons_succ]
                                rfl
                              refine pure_ (i := 20) (N := some 121) (v := ?_) (a' := ?_) #[true, true, true, true, true, true, true, true, true, true, true, true, true, true, true, true, true, true, true, true, true, false, false] rfl rfl (by kernel_rfl) (fun _ _ _ h => by cases h.1) (Or.inl ⟨by rfl, ?_⟩) ?_ ?_
                              rotate_left
                              · intro w'
                                go_simp
                                with_reducible rfl
                              rotate_left
                              · simp only [Act.put, List.setIfInBounds_toArray, List.set_cons_zero, List.set_cons_succ]
                                rfl
                              refine pure_ (i := 21) (N := some 122) (v := ?_) (a' := ?_) #[true, true, true, true, true, true, true, true, true, true, true, true, true, true, true, true, true, true, true, true, true, true, false] rfl rfl (by kernel_rfl) (fun _ _ _ h => by cases h.1) (Or.inl ⟨by rfl, ?_⟩) ?_ ?_
                              rotate_left
                              · intro w'
                                go_simp
                                with_reducible rfl
                              rotate_left
                              · simp only [Act.put, List.setIfInBounds_toArray, List.set_cons_zero, List.set_cons_succ]
                                rfl
                              refine last_ (i := 22) (N := none) #[true, true, true, true, true, true, true, true, true, true, true, true, true, true, true, true, true, true, true, true, true, true, true] rfl rfl (by kernel_rfl) (by simp) (fun K hK => ?_)
                              have s4 := hS.cell c4
                              have s6 := hS.frozen c4 c6
                              go_simp
                              refine hK.out _ _ ?_
                              refine done_ (by kernel_rfl) ?_
                              exact ⟨rfl, rfl, Wd, hS, rfl⟩
                            rintro _ ⟨Wd, hbd, rfl⟩
                            have HNO := Lib.hid ((HOU.out.below hbd).put (by omega) HBI.out tt m2)
                            have H0n := Lib.hid (blk_far (blk_keep hbd H0.out) (p := ⟨b, tt, none⟩) (by have := HNE.out; show w.heap.size ≠ b; omega) (.bool m2))
                            have HLn := Lib.hid (blk_far (blk_keep hbd HLB.out) (p := ⟨b, tt, none⟩) (by have := HLT.out; show WO.heap.size ≠ b; omega) (.bool m2))
                            have HBn := Lib.hid ((below_step HBw.out hbd).setCell (p := ⟨b, tt, none⟩) (by have := HNE.out; show w.heap.size ≤ b; omega) (.bool m2))
                            have HSn := Lib.hid (show WI.heap.size ≤ (Wd.setCell ⟨b, tt, none⟩ (.bool m2)).heap.size by rw [World.size_setCell]; exact Nat.le_trans HSZ.out (Below.size hbd))
                            clear hbd c1 c4 c5 c6
                            go_wp2_with fail
                            go_roundw
                            case rel => exact ⟨i + 1, _, by omega, by go_num, HNO, HNM, H0n, HLn, HBn, HSn⟩
                            case measure => simp [intOf]; omega
                          · simp only [Bool.true_or] at HNM
                            apply region_y (fun w' => ∃ Wd, Bz WK Wd ∧ w' = Wd.setCell ⟨b, tt, none⟩ (.bool true)) (N := 23) (ds := [22]) #[false, false, false, false, false, false, false, false, false, false, false, false, false, false, false, false, false, false, false, false, false, false, false]
                            · kernel_rfl
                            · rfl
                            · rfl
                            · intro Wd hS
                              refine pure_ (i := 0) (N := some 101) (v := ?_) (a' := ?_) #[true, false, false, false, false, false, false, false, false, false, false, false, false, false, false, false, false, false, false, false, false, false, false] rfl rfl (by kernel_rfl) (fun _ _ _ h => by cases h.1) (Or.inl ⟨by rfl, ?_⟩) ?_ ?_
                              rotate_left
                              · intro w'
                                go_simp
                                with_reducible rfl
                              rotate_left
                              · simp only [Act.put, List.setIfInBounds_toArray, List.set_cons_zero, List.set_cons_succ]
                                rfl
                              refine pure_ (i := 1) (N := some 102) (v := ?_) (a' := ?_) #[true, true, false, false, false, false, false, false, false, false, false, false, false, false, false, false, false, false, false, false, false, false, false] rfl rfl (by kernel_rfl) (fun _ _ _ h => by cases h.1) (Or.inl ⟨by rfl, ?_⟩) ?_ ?_
                              rotate_left
                              · intro w'
                                go_simp
                                with_reducible rfl
                              rotate_left
                              · simp only [Act.put, List.setIfInBounds_toArray, List.set_cons_zero, List.set_cons_succ]
                                rfl
                              refine pure_ (i := 2) (N := some 103) (v := ?_) (a' := ?_) #[true, true, true, false, false, false, false, false, false, false, false, false, false, false, false, false, false, false, false, false, false, false, false] rfl rfl (by kernel_rfl) (fun _ _ _ h => by cases h.1) (Or.inl ⟨by rfl, ?_⟩) ?_ ?_
                              rotate_left
                              · intro w'
                                go_simp
                                with_reducible rfl
                              rotate_left
                              · simp only [Act.put, List.setIfInBounds_toArray, List.set_cons_zero, List.set_cons_succ]
                                rfl
                              refine take_ (i := 3) (N := some 104) (v := ?_) (a' := ?_) #[true, true, true, true, false, false, false, false, false, false, false, false, false, false, false, false, false, false, false, false, false, false, false] rfl rfl (by kernel_rfl) (fun _ _ _ h => by cases h.1) (Or.inl ⟨by rfl, ?_⟩) hS ?_ ?_
                              rotate_left
                              · intro w' hb
                                have s0 := hb.cell c1
                                go_simp
                                with_reducible rfl
                              rotate_left
                              · simp only [Act.put, List.setIfInBounds_toArray, List.set_cons_zero, List.set_cons_succ]
                                rfl
                              refine pure_ (i := 4) (N := some 105) (v := ?_) (a' := ?_) #[true, true, true, true, true, false, false, false, false, false, false, false, false, false, false, false, false, false, false, false, false, false, false] rfl rfl (by kernel_rfl) (fun _ _ _ h => by cases h.1) (Or.inl ⟨by rfl, ?_⟩) ?_ ?_
                              rotate_left
                              · intro w'
                                go_simp
                                with_reducible rfl
                              rotate_left
                              · simp only [Act.put, List.setIfInBounds_toArray, List.set_cons_zero, List.set_cons_succ]
                                rfl
                              refine pure_ (i := 5) (N := some 106) (v := ?_) (a' := ?_) #[true, true, true, true, true, true, false, false, false, false, false, false, false, false, false, false, false, false, false, false, false, false, false] rfl rfl (by kernel_rfl) (fun _ _ _ h => by cases h.1) (Or.inl ⟨by rfl, ?_⟩) ?_ ?_
                              rotate_left
                              · intro w'
                                go_simp
                                with_reducible rfl
                              rotate_left
                              · simp only [Act.put, List.setIfInBounds_toArray, List.set_cons_zero, List.set_cons_succ]
                                rfl
                              refine pure_ (i := 6) (N := some 107) (v := ?_) (a' := ?_) #[true, true, true, true, true, true, true, false, false, false, false, false, false, false, false, false, false, false, false, false, false, false, false] rfl rfl (by kernel_rfl) (fun _ _ _ h => by cases h.1) (Or.inl ⟨by rfl, ?_⟩) ?_ ?_
                              rotate_left
                              · intro w'
                                go_simp
                                with_reducible rfl
                              rotate_left
                              · simp only [Act.put, List.setIfInBounds_toArray, List.set_cons_zero, List.set_cons_succ]
                                rfl
                              refine pure_ (i := 7) (N := some 108) (v := ?_) (a' := ?_) #[true, true, true, true, true, true, true, true, false, false, false, false, false, false, false, false, false, false, false, false, false, false, false] rfl rfl (by kernel_rfl) (fun _ _ _ h => by cases h.1) (Or.inl ⟨by rfl, ?_⟩) ?_ ?_
                              rotate_left
                              · intro w'
                                go_simp
                                with_reducible rfl
                              rotate_left
                              · simp only [Act.put, List.setIfInBounds_toArray, List.set_cons_zero, List.set_cons_succ]
                                rfl
                              refine take_ (i := 8) (N := some 109) (v := ?_) (a' := ?_) #[true, true, true, true, true, true, true, true, true, false, false, false, false, false, false, false, false, false, false, false, false, false, false] rfl rfl (by kernel_rfl) (fun _ _ _ h => by cases h.1) (Or.inl ⟨by rfl, ?_⟩) hS ?_ ?_
                              rotate_left
                              · intro w' hb
                                have s0 := hb.cell c1
                                go_simp
                                with_reducible rfl
                              rotate_left
                              · simp only [Act.put, List.setIfInBounds_toArray, List.set_cons_zero, List.set_cons_succ]
                                rfl
                              refine pure_ (i := 9) (N := some 110) (v := ?_) (a' := ?_) #[true, true, true, true, true, true, true, true, true, true, false, false, false, false, false, false, false, false, false, false, false, false, false] rfl rfl (by kernel_rfl) (fun _ _ _ h => by cases h.1) (Or.inl ⟨by rfl, ?_⟩) ?_ ?_
                              rotate_left
                              · intro w'
                                go_simp
                                with_reducible rfl
                              rotate_left
                              · simp only [Act.put, List.setIfInBounds_toArray, List.set_cons_zero, List.set_cons_succ]
                                rfl
                              refine pure_ (i := 10) (N := some 111) (v := ?_) (a' := ?_) #[true, true, true, true, true, true, true, true, true, true, true, false, false, false, false, false, false, false, false, false, false, false, false] rfl rfl (by kernel_rfl) (fun _ _ _ h => by cases h.1) (Or.inl ⟨by rfl, ?_⟩) ?_ ?_
                              rotate_left
                              · intro w'
                                go_simp
                                with_reducible rfl
                              rotate_left
                              · simp only [Act.put, List.setIfInBounds_toArray, List.set_cons_zero, List.set_cons_succ]
                                rfl
                              refine take_ (i := 11) (N := some 112) (v := ?_) (a' := ?_) #[true, true, true, true, true, true, true, true, true, true, true, true, false, false, false, false, false, false, false, false, false, false, false] rfl rfl (by kernel_rfl) (fun _ _ _ h => by cases h.1) (Or.inl ⟨by rfl, ?_⟩) hS ?_ ?_
                              rotate_left
                              · intro w' hb
                                have s0 := hb.cell c4
                                go_simp
                                with_reducible rfl
                              rotate_left
                              · simp only [Act.put, List.setIfInBounds_toArray, List.set_cons_zero, List.set_cons_succ]
                                rfl
                              refine pure_ (i := 12) (N := some 113) (v := ?_) (a' := ?_) #[true, true, true, true, true, true, true, true, true, true, true, true, true, false, false, false, false, false, false, false, false, false, false] rfl rfl (by kernel_rfl) (fun _ _ _ h => by cases h.1) (Or.inl ⟨by rfl, ?_⟩) ?_ ?_
                              rotate_left
                              · intro w'
                                go_simp
                                with_reducible rfl
                              rotate_left
                              · simp only [Act.put, List.setIfInBounds_toArray, List.set_cons_zero, List.set_cons_succ]
                                rfl
                              refine pure_ (i := 13) (N := some 114) (v := undef) (a' := ?_) #[true, true, true, true, true, true, true, true, true, true, true, true, true, true, false, false, false, false, false, false, false, false, false] rfl rfl (by kernel_rfl) (fun _ _ _ h => by cases h.1) (Or.inr ⟨by rfl, rfl⟩) ?_ ?_
                              rotate_left
                              · simp only [Act.put, List.setIfInBounds_toArray, List.set_cons_zero, List.set_cons_succ]
                                rfl
                              refine pure_ (i := 14) (N := some 115) (v := undef) (a' := ?_) #[true, true, true, true, true, true, true, true, true, true, true, true, true, true, true, false, false, false, false, false, false, false, false] rfl rfl (by kernel_rfl) (fun _ _ _ h => by cases h.1) (Or.inr ⟨by rfl, rfl⟩) ?_ ?_
                              rotate_left
                              · simp only [Act.put, List.setIfInBounds_toArray, List.set_cons_zero, List.set_cons_succ]
                                rfl
                              refine pure_ (i := 15) (N := some 116) (v := undef) (a' := ?_) #[true, true, true, true, true, true, true, true, true, true, true, true, true, true, true, true, false, false, false, false, false, false, false] rfl rfl (by kernel_rfl) (fun _ _ _ h => by cases h.1) (Or.inr ⟨by rfl, rfl⟩) ?_ ?_
                              rotate_left
                              · simp only [Act.put, List.setIfInBounds_toArray, List.set_cons_zero, List.set_cons_succ]
                                rfl
                              refine pure_ (i := 16) (N := some 117) (v := undef) (a' := ?_) #[true, true, true, true, true, true, true, true, true, true, true, true, true, true, true, true, true, false, false, false, false, false, false] rfl rfl (by kernel_rfl) (fun _ _ _ h => by cases h.1) (Or.inr ⟨by rfl, rfl⟩) ?_ ?_
                              rotate_left
                              · simp only [Act.put, List.setIfInBounds_toArray, List.set_cons_zero, List.set_cons_succ]
                                rfl
                              refine pure_ (i := 17) (N := some 118) (v := undef) (a' := ?_) #[true, true, true, true, true, true, true, true, true, true, true, true, true, true, true, true, true, true, false, false, false, false, false] rfl rfl (by kernel_rfl) (fun _ _ _ h => by cases h.1) (Or.inr ⟨by rfl, rfl⟩) ?_ ?_
                              rotate_left
                              · simp only [Act.put, List.setIfInBounds_toArray, List.set_cons_zero, List.set_cons_succ]
                                rfl
                              refine pure_ (i := 18) (N := some 119) (v := undef) (a' := ?_) #[true, true, true, true, true, true, true, true, true, true, true, true, true, true, true, true, true, true, true, false, false, false, false] rfl rfl (by kernel_rfl) (fun _ _ _ h => by cases h.1) (Or.inr ⟨by rfl, rfl⟩) ?_ ?_
                              rotate_left
                              · simp only [Act.put, List.setIfInBounds_toArray, List.set_cons_zero, List.set_cons_succ]
                                rfl
                              refine pure_ (i := 19) (N := some 120) (v := undef) (a' := ?_) #[true, true, true, true, true, true, true, true, true, true, true, true, true, true, true, true, true, true, true, true, false, false, false] rfl rfl (by kernel_rfl) (fun _ _ _ h => by cases h.1) (Or.inr ⟨by rfl, rfl⟩) ?_ ?_
                              rotate_left
                              · simp only [Act.put, List.setIfInBounds_toArray, List.set_cons_zero, List.set_cons_succ]
                                rfl
                              refine pure_ (i := 20) (N := some 121) (v := ?_) (a' := ?_) #[true, true, true, true, true, true, true, true, true, true, true, true, true, true, true, true, true, true, true, true, true, false, false] rfl rfl (by kernel_rfl) (fun _ _ _ h => by cases h.1) (Or.inl ⟨by rfl, ?_⟩) ?_ ?_
                              rotate_left
                              · intro w'
                                go_simp
                                with_reducible rfl
                              rotate_left
                              · simp only [Act.put, List.setIfInBounds_toArray, List.set_cons_zero, List.set_cons_succ]
                                rfl
                              refine pure_ (i := 21) (N := some 122) (v := ?_) (a' := ?_) #[true, true, true, true, true, true, true, true, true, true, true, true, true, true, true, true, true, true, true, true, true, true, false] rfl rfl (by kernel_rfl) (fun _ _ _ h => by cases h.1) (Or.inl ⟨by rfl, ?_⟩) ?_ ?_
                              rotate_left
                              · intro w'
                                go_simp
                                with_reducible rfl
                              rotate_left
                              · simp only [Act.put, List.setIfInBounds_toArray, List.set_cons_zero, List.set_cons_succ]
                                rfl
                              refine last_ (i := 22) (N := none) #[true, true, true, true, true, true, true, true, true, true, true, true, true, true, true, true, true, true, true, true, true, true, true] rfl rfl (by kernel_rfl) (by simp) (fun K hK => ?_)
                              have s4 := hS.cell c4
                              have s6 := hS.frozen c4 c6
                              go_simp
                              refine hK.out _ _ ?_
                              refine done_ (by kernel_rfl) ?_
                              exact ⟨rfl, rfl, Wd, hS, rfl⟩
                            rintro _ ⟨Wd, hbd, rfl⟩
                            have HNO := Lib.hid ((HOU.out.below hbd).put (by omega) HBI.out tt true)
                            have H0n := Lib.hid (blk_far (blk_keep hbd H0.out) (p := ⟨b, tt, none⟩) (by have := HNE.out; show w.heap.size ≠ b; omega) (.bool true))
                            have HLn := Lib.hid (blk_far (blk_keep hbd HLB.out) (p := ⟨b, tt, none⟩) (by have := HLT.out; show WO.heap.size ≠ b; omega) (.bool true))
                            have HBn := Lib.hid ((below_step HBw.out hbd).setCell (p := ⟨b, tt, none⟩) (by have := HNE.out; show w.heap.size ≤ b; omega) (.bool true))
                            have HSn := Lib.hid (show WI.heap.size ≤ (Wd.setCell ⟨b, tt, none⟩ (.bool true)).heap.size by rw [World.size_setCell]; exact Nat.le_trans HSZ.out (Below.size hbd))
                            clear hbd c1 c4 c5 c6
                            go_wp2_with fail
                            go_roundw
                            case rel => exact ⟨i + 1, _, by omega, by go_num, HNO, HNM, H0n, HLn, HBn, HSn⟩
                            case measure => simp [intOf]; omega
                        · obtain rfl : i = C.f8.length := by omega
                          have HNS := Lib.hid (HREF.out.weak (T := S2 C r k x (j + 1)) fun a b ha h => by
                            rcases h with h | ⟨q, hq, hb, hr⟩
                            · exact .inl (.inl h)
                            · rw [List.take_add_one, HQ.out] at hq
                              rcases List.mem_append.1 hq with hq | hq
                              · exact .inl (.inr ⟨q, hq, hb, hr⟩)
                              · have : q = (tt : Int) := by simpa using hq
                                subst this
                                exact .inr ⟨ha, by omega, hr⟩)
                          go_wp2_with fail
                          go_roundw
                          case rel => exact ⟨j + 1, M, by omega, by go_num, HOU, HNS, H0, HLB, HBw, HSZ⟩
                          case measure => simp [intOf]; omega
                    · have HNS := Lib.hid (HREF.out.weak (T := S1 C r (k + 1)) fun a b _ h => by
                        rcases s1_link HV.out h with ⟨_, h⟩ | h
                        · rwa [show j = x.f1.length by omega]
                        · exact .inl h)
                      go_wp2_with fail
                      go_roundw
                      case rel => exact ⟨k + 1, M, by omega, by go_num, HOU, HNS, H0, HBw, HSZ⟩
                      case measure => simp [intOf]; omega
            · have HNS := Lib.hid (HREF.out.weak (T := fun i j => Rk (nxOf C C.f11) i (r + 1) j) fun a b _ h => by
                have := s1_next h
                rwa [show C.f11.length = k by omega] at this)
              go_wp2_with fail
              go_roundw
              case rel => exact ⟨r + 1, M, by omega, by go_num, HOU, HNS, H0, HB, HSZ⟩
              case measure => simp [intOf]; omega
        · obtain rfl : r = C.f8.length := by omega
          have HFIN := Lib.hid (show ReachOk C M from ⟨by rw [← HOU.out.len]; exact HBL.out, fun i hi => ⟨(HOU.out.row i _ (List.getElem?_eq_getElem (by rw [HBL.out]; exact hi))).2.1, fun j => ⟨HREF.out.snd i hi j, fun hr => HREF.out.cmp i hi j (rk_all (fun row hrow q hq => ((nx_ok C C.f11).2 row hrow).1 q hq) hi hr)⟩⟩⟩)
          go_wp2_with fail
          go_ret
          exact ⟨w.heap.size + 1, w.heap.size + 1 + 1, bs, M, rfl, by omega, by omega, HOU.out, HBL.out, HFIN.out, HB.out⟩
end Go.Proofs.Ytehbabkgaecoaaa
