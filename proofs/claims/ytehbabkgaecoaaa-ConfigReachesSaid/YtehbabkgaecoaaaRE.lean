/- What config's Reach answers. -/
import Derived.Test.YtehbabkgaecoaaaREp
import Derived.Test.YtehbabkgaecoaaaPl
import Derived.Test.YtehbabkgaecoaaaWApart
import Derived.Test.YtehbabkgaecoaaaWQPut
namespace Go.Proofs.Ytehbabkgaecoaaa
set_option linter.unusedVariables false
set_option linter.unusedSimpArgs false
open Go.RowKit Go.Shelf Go.Proofs.YtehbabkgaecoaaaW.PrintWords Go.Proofs.YtehbabkgaecoaaaW.PrintLast

def slV (b n : Nat) : Value := .slice (some ⟨b, 0, none⟩) n n
/-- Rows of numbers of the call's own, no two of them one. -/
structure NxI (W : World) (base Gn : Nat) (vs : List Value) (nx : List (List Int)) : Prop where
  blk : W.heap[Gn]? = some (.cells vs.toArray 23 (0, 0))
  len : vs.length = nx.length
  row : ∀ i, i < vs.length → Kd.R kI 3 W base (fun _ => True) (vs.getD i undef) (nx.getD i [])
  apart : ∀ i j, i < vs.length → j < vs.length → i ≠ j → ∀ g, (vs.getD i undef).ownBlock = some g → (vs.getD j undef).ownBlock ≠ some g
theorem NxI.below {W V : World} {base Gn : Nat} {vs : List Value} {nx : List (List Int)} (h : NxI W base Gn vs nx) (hb : Below W.heap.size W V) : NxI V base Gn vs nx :=
  ⟨blk_keep hb h.blk, h.len, fun i hi => Kd.R_below (h.row i hi) hb, h.apart⟩
theorem NxI.upto {W V : World} {base Gn b : Nat} {vs : List Value} {nx : List (List Int)} (h : NxI W base Gn vs nx) (hs : W.heap.size ≤ b) (hb : Below b W V) : NxI V base Gn vs nx := h.below (hb.mono hs)
theorem NxI.start {W : World} {base Gn P : Nat} (h : W.heap[Gn]? = some (.cells (List.replicate P (Value.slice none 0 0)).toArray 23 (0, 0))) : NxI W base Gn (List.replicate P (.slice none 0 0)) (List.replicate P []) := by
  have hg : ∀ i, i < P → (List.replicate P (Value.slice none 0 0)).getD i undef = .slice none 0 0 := fun i hi => by rw [List.getD_eq_getElem?_getD, List.getElem?_replicate, if_pos hi]; rfl
  refine ⟨h, by simp, fun i hi => ?_, fun i j hi hj _ g hg' => ?_⟩
  · have hi' : i < P := by simpa using hi
    have e : (List.replicate P ([] : List Int)).getD i [] = [] := by rw [List.getD_eq_getElem?_getD, List.getElem?_replicate, if_pos hi']; rfl
    rw [hg i hi', e]
    exact Kd.R_nil _ _ _ _ _
  · rw [hg i (by simpa using hi)] at hg'
    simp [Value.ownBlock] at hg'
theorem getD_set' {α : Type} {l : List α} {a b : Nat} {x d : α} (ha : a < l.length) : (l.set a x).getD b d = if b = a then x else l.getD b d := by
  rw [List.getD_eq_getElem?_getD, List.getD_eq_getElem?_getD, List.getElem?_set]
  by_cases h : a = b
  · subst h; simp [ha]
  · rw [if_neg h, if_neg (fun e => h e.symm)]
theorem NxI.put {W W1 : World} {base Gn : Nat} {vs : List Value} {nx : List (List Int)} (h : NxI W base Gn vs nx) {i : Nat} (hi : i < vs.length) (hG : Gn < base) {v1 : Value} {r : List Int} (hR : Kd.R kI 3 W1 base (fun _ => True) v1 r) (hg : W.grownBy W1 (vs.getD i undef).ownBlock)
    (hat : v1.ownBlock = (vs.getD i undef).ownBlock ∨ ∃ b, v1.ownBlock = some b ∧ W.heap.size ≤ b) : NxI (W1.setCell ⟨Gn, i, none⟩ v1) base Gn (vs.set i v1) (nx.set i r) := by
  have hi' : i < nx.length := by have := h.len; omega
  have hGn : some Gn ≠ (vs.getD i undef).ownBlock := fun e => by have := Kd.R_base (h.row i hi) Gn e.symm; omega
  refine ⟨by have := blk_set (blk_grown h.blk hg hGn) i v1; rw [List.setIfInBounds_toArray] at this; exact this, by simp [h.len], fun j hj => ?_, fun j k hj hk hne g hgj hgk => ?_⟩
  · rw [List.length_set] at hj
    rw [getD_set' hi, getD_set' hi']
    by_cases he : j = i
    · rw [if_pos he, if_pos he]
      exact Kd.R_mono (Kd.R_far (Kd.R_mono (Kd.R_bound hR) (fun k hk => hk.2.1)) (p := ⟨Gn, i, none⟩) (fun k hk => by show k ≠ Gn; have : base ≤ k := hk; omega) v1) (fun _ _ => trivial)
    · rw [if_neg he, if_neg he]
      have h1 := Kd.R_tight rfl (h.row j hj)
      have h2 := Kd.R_grown h1 hg (fun k hk e => h.apart j i hj hi he k hk.symm e.symm)
      exact Kd.R_mono (Kd.R_far (Kd.R_mono (Kd.R_bound h2) (fun k hk => hk.2.1)) (p := ⟨Gn, i, none⟩) (fun k hk => by show k ≠ Gn; have : base ≤ k := hk; omega) v1) (fun _ _ => trivial)
  · rw [List.length_set] at hj hk
    rw [getD_set' hi] at hgj hgk
    by_cases he : j = i
    · rw [if_pos he] at hgj
      rw [if_neg (by omega)] at hgk
      rcases hat with e | ⟨b, e, hb⟩
      · rw [e] at hgj
        exact h.apart i k hi hk (by omega) g hgj hgk
      · rw [e] at hgj
        cases hgj
        have := Kd.R_lt (h.row k hk) _ hgk
        omega
    · rw [if_neg he] at hgj
      by_cases he2 : k = i
      · rw [if_pos he2] at hgk
        rcases hat with e | ⟨b, e, hb⟩
        · rw [e] at hgk
          exact h.apart j i hj hi he g hgj hgk
        · rw [e] at hgk
          cases hgk
          have := Kd.R_lt (h.row j hj) _ hgj
          omega
      · rw [if_neg he2] at hgk
        exact h.apart j k hj hk hne g hgj hgk
theorem NxI.keep {W V : World} {base Gn G : Nat} {vs : List Value} {nx : List (List Int)} (h : NxI W base Gn vs nx) (hk : KeepBut W V G none) (h1 : Gn ≠ G) (h2 : G < base) : NxI V base Gn vs nx :=
  ⟨hk.blk h.blk h1 (by simp), h.len, fun i hi => Kd.R_mono (Kd.R_keep (Kd.R_mono (Kd.R_bound (h.row i hi)) (fun k hk => (hk.2.1 : base ≤ k))) hk (fun k hk => by have : base ≤ k := hk; omega)) (fun _ _ => trivial), h.apart⟩
theorem keep_up {W V U : World} {G b : Nat} (hk : KeepBut W V G none) (hb : Below b V U) (hs : W.heap.size ≤ b) : KeepBut W U G none :=
  ⟨Nat.le_trans hk.1 hb.size, fun i hi h1 h2 => (hb.block i (by omega)).trans (hk.2 i hi h1 h2)⟩
theorem NxI.at_ {W : World} {base Gn : Nat} {vs : List Value} {nx : List (List Int)} (h : NxI W base Gn vs nx) {i : Nat} (hi : i < nx.length) : ∃ A c, W.cell? ⟨Gn, i, none⟩ = some (.slice A (nx.getD i []).length c) ∧ vs.getD i undef = .slice A (nx.getD i []).length c ∧ Kd.C kI W A (nx.getD i []).length (nx.getD i []) := by
  have hi' : i < vs.length := by have := h.len; omega
  have hr := h.row i hi'
  obtain ⟨A, c, hv⟩ := Kd.R_slice hr
  refine ⟨A, c, ?_, hv, ?_⟩
  · rw [blk_cell h.blk i, List.getElem?_toArray, ← hv, List.getD_eq_getElem?_getD, List.getElem?_eq_getElem hi']
    rfl
  · rw [hv] at hr
    exact (Kd.R_reads' hr).2.2
/-- The table's rows, as far as they are made. -/
structure OutI (W : World) (lo G P : Nat) (bs : List Nat) (M : List (List Bool)) : Prop where
  blk : W.heap[G]? = some (.cells (bs.map (fun b => slV b P) ++ List.replicate (P - bs.length) (Value.slice none 0 0)).toArray 50 (0, 0))
  len : bs.length = M.length
  le : bs.length ≤ P
  row : ∀ i b, bs[i]? = some b → lo ≤ b ∧ (M.getD i []).length = P ∧ W.heap[b]? = some (.cells ((M.getD i []).map Value.bool).toArray 4 (0, 0))
  nodup : bs.Nodup
theorem set_mid {α : Type} {A : List α} {k P : Nat} {x z : α} (ha : A.length = k) (hk : k < P) : (A ++ List.replicate (P - k) z).set k x = (A ++ [x]) ++ List.replicate (P - (k + 1)) z := by
  rw [List.set_append_right _ _ (by omega), ha, Nat.sub_self, show P - k = (P - (k + 1)) + 1 by omega, List.replicate_succ, List.set_cons_zero, List.append_assoc]
  rfl
theorem OutI.snoc {W V : World} {lo G P k : Nat} {bs : List Nat} {M : List (List Bool)} (h : OutI W lo G P bs M) (hk : bs.length = k) (hkP : k < P) {seen : List Bool}
    (hG : V.heap[G]? = some (.cells ((bs.map (fun b => slV b P) ++ List.replicate (P - bs.length) (Value.slice none 0 0)).toArray.setIfInBounds k (slV W.heap.size P)) 50 (0, 0)))
    (hkeep : ∀ i, i < W.heap.size → i ≠ G → V.heap[i]? = W.heap[i]?) (hlo : lo ≤ W.heap.size) (hGlo : G < lo) (hR : V.heap[W.heap.size]? = some (.cells (seen.map Value.bool).toArray 4 (0, 0))) (hsl : seen.length = P) : OutI V lo G P (bs ++ [W.heap.size]) (M ++ [seen]) := by
  have hml : M.length = k := by rw [← h.len, hk]
  refine ⟨?_, by rw [List.length_append, List.length_append, h.len]; rfl, by rw [List.length_append]; simp; omega, fun i b hb => ?_, ?_⟩
  · rw [hG, List.setIfInBounds_toArray, hk, set_mid (by simp [hk]) hkP, List.map_append, List.length_append, hk]
    rfl
  · rcases Nat.lt_or_ge i bs.length with hi | hi
    · rw [List.getElem?_append_left hi] at hb
      obtain ⟨h1, h2, h3⟩ := h.row i b hb
      have e : (M ++ [seen]).getD i [] = M.getD i [] := by rw [List.getD_eq_getElem?_getD, List.getD_eq_getElem?_getD, List.getElem?_append_left (by omega)]
      rw [e]
      exact ⟨h1, h2, (hkeep b (blk_lt h3) (by omega)).trans h3⟩
    · have hi2 : i = bs.length := by
        have := (List.getElem?_eq_some_iff.1 hb).1
        rw [List.length_append, List.length_singleton] at this
        omega
      subst hi2
      rw [List.getElem?_append_right (Nat.le_refl _), Nat.sub_self] at hb
      have hb' : W.heap.size = b := by simpa using hb
      subst hb'
      have e : (M ++ [seen]).getD bs.length [] = seen := by rw [List.getD_eq_getElem?_getD, List.getElem?_append_right (by omega), show bs.length - M.length = 0 by omega]; rfl
      rw [e]
      exact ⟨hlo, hsl, hR⟩
  · rw [List.nodup_append]
    refine ⟨h.nodup, by simp, fun a ha b hb hab => ?_⟩
    obtain rfl := List.mem_singleton.1 hb
    obtain ⟨i, hi⟩ := List.getElem?_of_mem ha
    have := blk_lt (h.row i a hi).2.2
    omega
theorem flat_len {L : List S61} {k : Nat} {x : S61} (h : L[k]? = some x) : ((L.take k).flatMap (fun x => x.f1)).length + x.f1.length ≤ (L.flatMap (fun x => x.f1)).length := by
  have e : L.flatMap (fun x => x.f1) = (L.take (k + 1)).flatMap (fun x => x.f1) ++ (L.drop (k + 1)).flatMap (fun x => x.f1) := by rw [← List.flatMap_append, List.take_append_drop]
  rw [e, List.length_append, List.take_add_one, h, List.flatMap_append, List.length_append]
  simp
theorem made_rep (z : Value) (n : Nat) : madeCells #[z] n = Array.replicate n z := by
  apply Array.ext
  · simp [size_madeCells]
  · intro i h1 h2
    simp [madeCells, Nat.mod_one]
set_option maxRecDepth 100000 in
set_option maxHeartbeats 32000000 in
theorem reach_calls (A1 A8 A9 A10 A11 : Option Addr) (c1 c8 c9 c10 c11 : Nat) (C : S29) (w : World) (h : CfgIn w C A1 A8 A9 A10 A11 c1 c8 c9 c10 c11) (hP : C.f8.length ≤ 1000) (hT : (C.f11.flatMap (fun x => x.f1)).length ≤ 1000000) :
    Calls Try.prog 29 #[.agg #[.int .i64 C.f0, .slice A1 C.f1.length c1, .int .i64 C.f2, .int .i64 C.f3, .int .i64 C.f4, .int .i64 C.f5, .int .i64 C.f6, .int .i64 C.f7, .slice A8 C.f8.length c8, .slice A9 C.f9.length c9, .slice A10 C.f10.length c10, .slice A11 C.f11.length c11]] w fun e w' => ∃ (G lo : Nat) (bs : List Nat) (M : List (List Bool)), e = .returned (slV G C.f8.length) ∧ w.heap.size ≤ G ∧ G < lo ∧ OutI w' lo G C.f8.length bs M ∧ bs.length = C.f8.length ∧ ReachOk C M ∧ Below w.heap.size w w' := by
  have HR := Lib.hid h
  have HT := Lib.hid hT
  obtain ⟨l1, l8, l9, l10, l11⟩ := h.len
  clear h hT
  have hmk1 := fun W => run_make_row' (P := Try.prog) 48 50 (.slice none 0 0) 24 Try.underlying48 (by kernel_rfl) rfl .i64 .i64 C.f8.length (by omega) (by omega) W
  have hmk2 := fun W => run_make_row' (P := Try.prog) 25 23 (.slice none 0 0) 24 Try.underlying25 info23 rfl .i64 .i64 C.f8.length (by omega) (by omega) W
  have H0 := Lib.hid (show (((w.alloc (Obj.cells #[.int .i64 C.f0, .slice A1 C.f1.length c1, .int .i64 C.f2, .int .i64 C.f3, .int .i64 C.f4, .int .i64 C.f5, .int .i64 C.f6, .int .i64 C.f7, .slice A8 C.f8.length c8, .slice A9 C.f9.length c9, .slice A10 C.f10.length c10, .slice A11 C.f11.length c11] 29)).alloc (Obj.cells (Array.replicate C.f8.length (Value.slice none 0 0)) 50)).alloc (Obj.cells (Array.replicate C.f8.length (Value.slice none 0 0)) 23)).heap[w.heap.size]? = some (Obj.cells #[.int .i64 C.f0, .slice A1 C.f1.length c1, .int .i64 C.f2, .int .i64 C.f3, .int .i64 C.f4, .int .i64 C.f5, .int .i64 C.f6, .int .i64 C.f7, .slice A8 C.f8.length c8, .slice A9 C.f9.length c9, .slice A10 C.f10.length c10, .slice A11 C.f11.length c11] 29) from blk_alloc (blk_alloc (blk_new w _) _) _)
  have H1 := Lib.hid (show (((w.alloc (Obj.cells #[.int .i64 C.f0, .slice A1 C.f1.length c1, .int .i64 C.f2, .int .i64 C.f3, .int .i64 C.f4, .int .i64 C.f5, .int .i64 C.f6, .int .i64 C.f7, .slice A8 C.f8.length c8, .slice A9 C.f9.length c9, .slice A10 C.f10.length c10, .slice A11 C.f11.length c11] 29)).alloc (Obj.cells (Array.replicate C.f8.length (Value.slice none 0 0)) 50)).alloc (Obj.cells (Array.replicate C.f8.length (Value.slice none 0 0)) 23)).heap[w.heap.size + 1]? = some (Obj.cells (Array.replicate C.f8.length (Value.slice none 0 0)) 50) from blk_alloc (blk_new_at _ _ (by simp)) _)
  have H2 := Lib.hid (show (((w.alloc (Obj.cells #[.int .i64 C.f0, .slice A1 C.f1.length c1, .int .i64 C.f2, .int .i64 C.f3, .int .i64 C.f4, .int .i64 C.f5, .int .i64 C.f6, .int .i64 C.f7, .slice A8 C.f8.length c8, .slice A9 C.f9.length c9, .slice A10 C.f10.length c10, .slice A11 C.f11.length c11] 29)).alloc (Obj.cells (Array.replicate C.f8.length (Value.slice none 0 0)) 50)).alloc (Obj.cells (Array.replicate C.f8.length (Value.slice none 0 0)) 23)).heap[w.heap.size + 1 + 1]? = some (Obj.cells (Array.replicate C.f8.length (Value.slice none 0 0)) 23) from blk_new_at _ _ (by simp))
  have HB := Lib.hid (show Below w.heap.size w (((w.alloc (Obj.cells #[.int .i64 C.f0, .slice A1 C.f1.length c1, .int .i64 C.f2, .int .i64 C.f3, .int .i64 C.f4, .int .i64 C.f5, .int .i64 C.f6, .int .i64 C.f7, .slice A8 C.f8.length c8, .slice A9 C.f9.length c9, .slice A10 C.f10.length c10, .slice A11 C.f11.length c11] 29)).alloc (Obj.cells (Array.replicate C.f8.length (Value.slice none 0 0)) 50)).alloc (Obj.cells (Array.replicate C.f8.length (Value.slice none 0 0)) 23)) from (((Below.refl _ _).alloc (Nat.le_refl _) _).alloc (by simp) _).alloc (by simp; omega) _)
  simp only [made_rep] at hmk1 hmk2
  go_enter Try.func29, Try.ntmps29
  go_wp2
  go_step3
  obtain ⟨k0, k1, k2, k3, k4, k5, k6, k7, k8, k9, k10, k11⟩ := cfg_cells H0.out
  go_wp2
  go_step3
  go_wp2
  clear k0 k1 k2 k3 k4 k5 k6 k7 k8 k9 k10 k11 hmk1 hmk2
  have HNX := Lib.hid (NxI.start (base := w.heap.size + 1 + 1 + 1) (by rw [List.toArray_replicate]; exact H2.out))
  generalize hW3 : (((w.alloc (Obj.cells #[.int .i64 C.f0, .slice A1 C.f1.length c1, .int .i64 C.f2, .int .i64 C.f3, .int .i64 C.f4, .int .i64 C.f5, .int .i64 C.f6, .int .i64 C.f7, .slice A8 C.f8.length c8, .slice A9 C.f9.length c9, .slice A10 C.f10.length c10, .slice A11 C.f11.length c11] 29)).alloc (Obj.cells (Array.replicate C.f8.length (Value.slice none 0 0)) 50)).alloc (Obj.cells (Array.replicate C.f8.length (Value.slice none 0 0)) 23)) = V0 at *
  clear hW3 H2
  go_loopw [30] (fun i wr => ∃ (k : Nat) (vs : List Value), k ≤ C.f11.length ∧ i = .int .i64 k ∧ Hid (NxI wr (w.heap.size + 1 + 1 + 1) (w.heap.size + 1 + 1) vs (nxOf C (C.f11.take k))) ∧ Hid (wr.heap[w.heap.size]? = some (Obj.cells #[.int .i64 C.f0, .slice A1 C.f1.length c1, .int .i64 C.f2, .int .i64 C.f3, .int .i64 C.f4, .int .i64 C.f5, .int .i64 C.f6, .int .i64 C.f7, .slice A8 C.f8.length c8, .slice A9 C.f9.length c9, .slice A10 C.f10.length c10, .slice A11 C.f11.length c11] 29)) ∧ Hid (wr.heap[w.heap.size + 1]? = some (Obj.cells (Array.replicate C.f8.length (Value.slice none 0 0)) 50)) ∧ Hid (Below w.heap.size w wr)) (fun i _ => C.f11.length - (intOf i).toNat)
  case atStart => exact ⟨0, _, by omega, rfl, HNX, H0, H1, HB⟩
  case round =>
    clear HNX H0 H1 HB
    obtain ⟨k, vs, hk, rfl, HNX, H0, H1, HB⟩ := hrel
    obtain ⟨WO, rfl⟩ : ∃ W : World, W = wr := ⟨_, rfl⟩
    by_cases hlt : k < C.f11.length
    · obtain ⟨ad, x, Ax, cx, e11, x0, x1, x2, hcx, HXR, HV⟩ := at_K (Kd.C_below HR.out.2.2.2.2.2 HB.out) k hlt
      subst e11
      have hst := Lib.hid (show nxOf C (C.f11.take (k + 1)) = nxStep C (nxOf C (C.f11.take k)) x by unfold nxOf; rw [List.take_add_one, HV.out]; simp)
      have HSZ := Lib.hid (show w.heap.size + 1 + 1 < WO.heap.size from blk_lt HNX.out.blk)
      have hb := (Below.refl WO.heap.size WO).alloc (Nat.le_refl _) (Obj.cells #[.int .i64 x.f0, .slice Ax x.f1.length cx, .int .i64 x.f2] 61)
      replace HNX := Lib.hid (HNX.out.below hb)
      replace H0 := Lib.hid (blk_keep hb H0.out)
      replace H1 := Lib.hid (blk_keep hb H1.out)
      have HLB := Lib.hid (blk_new WO (Obj.cells #[.int .i64 x.f0, .slice Ax x.f1.length cx, .int .i64 x.f2] 61))
      replace HXR := Lib.hid (Kd.C_below HXR.out hb)
      replace HB := Lib.hid (below_step HB.out hb)
      clear hb
      obtain ⟨k0, k1, k2, k3, k4, k5, k6, k7, k8, k9, k10, k11⟩ := cfg_cells H0.out
      have y0 := blk_cell HLB.out 0
      go_wp2_with fail
      generalize hW1 : WO.alloc (Obj.cells #[.int .i64 x.f0, .slice Ax x.f1.length cx, .int .i64 x.f2] 61) = V1 at *
      clear hW1 x0 x1 x2
      obtain ⟨fa, hfa⟩ : ∃ a, a = partW C x.f0 := ⟨_, rfl⟩
      refine (part_calls _ _ _ _ _ _ _ _ _ _ C _ (HR.out.below HB.out) x.f0).mono ?_
      rintro e W1 ⟨rfl, hb⟩
      rw [← hfa]
      have HFA := Lib.hid hfa
      clear hfa k0 k1 k2 k3 k4 k5 k6 k7 k8 k9 k10 k11 y0
      replace HNX := Lib.hid (HNX.out.below hb)
      replace H0 := Lib.hid (blk_keep hb H0.out)
      replace H1 := Lib.hid (blk_keep hb H1.out)
      replace HLB := Lib.hid (blk_keep hb HLB.out)
      replace HXR := Lib.hid (Kd.C_below HXR.out hb)
      replace HB := Lib.hid (below_step HB.out hb)
      clear hb
      obtain ⟨fi, fb⟩ := fa
      cases fb
      case false =>
        have hns := Lib.hid (show nxOf C (C.f11.take (k + 1)) = nxOf C (C.f11.take k) by rw [hst.out, nxStep, if_neg (by unfold okL; rw [← HFA.out]; simp)])
        go_wp2
        go_roundw
        case rel => exact ⟨k + 1, vs, by omega, by go_num, Lib.hid (by rw [hns.out]; exact HNX.out), H0, H1, HB⟩
        case measure => simp [intOf]; omega
      have hfb := part_bd (C := C) (n := x.f0) (by rw [← HFA.out])
      rw [← HFA.out] at hfb
      obtain ⟨fi, rfl⟩ : ∃ m : Nat, fi = (m : Int) := ⟨fi.toNat, by have := hfb.1; simp only at this; omega⟩
      have hfl : fi < C.f8.length := by have := hfb.2; simp only at this; omega
      clear hfb
      have y1 := blk_cell HLB.out 1
      have hxl : x.f1.length ≤ 9223372036854775807 := HXR.out.2.1
      go_wp2
      go_loopw [9, 46] (fun v9' i wi => ∃ (j : Nat) (v9 : Value), j ≤ x.f1.length ∧ v9 = v9' ∧ i = .int .i64 j ∧ Hid ((x.f1.take j).all (fun n => (partW C n).2) = true) ∧ Hid (Kd.R kI 3 wi W1.heap.size (fun _ => True) v9 ((x.f1.take j).map (fun n => (partW C n).1))) ∧ Hid (Below W1.heap.size W1 wi)) (fun _ i _ => x.f1.length - (intOf i).toNat)
      case atStart => exact ⟨0, _, by omega, rfl, rfl, Lib.hid (by simp), Lib.hid (Kd.R_nil _ _ _ _ _), Lib.hid (Below.refl _ _)⟩
      case round =>
        clear y1
        obtain ⟨j, v9, hj, rfl, rfl, HA, HV9, HBI⟩ := hrel
        by_cases hjt : j < x.f1.length
        · obtain ⟨adx, n, eA, n0, HN⟩ := at_I (Kd.C_below HXR.out HBI.out) j hjt
          subst eA
          obtain ⟨k0, k1, k2, k3, k4, k5, k6, k7, k8, k9, k10, k11⟩ := cfg_cells (blk_keep HBI.out H0.out)
          go_wp2_with fail
          obtain ⟨fa, hfa⟩ : ∃ a, a = partW C n := ⟨_, rfl⟩
          refine (part_calls _ _ _ _ _ _ _ _ _ _ C _ (HR.out.below (below_step HB.out HBI.out)) n).mono ?_
          rintro e W2 ⟨rfl, hb⟩
          rw [← hfa]
          have HFN := Lib.hid hfa
          clear hfa k0 k1 k2 k3 k4 k5 k6 k7 k8 k9 k10 k11 n0
          replace HBI := Lib.hid (below_step HBI.out hb)
          replace HV9 := Lib.hid (Kd.R_below HV9.out hb)
          clear hb
          obtain ⟨ti, tb⟩ := fa
          cases tb
          case false =>
            have hns := Lib.hid (show nxOf C (C.f11.take (k + 1)) = nxOf C (C.f11.take k) by
              rw [hst.out, nxStep, if_neg (by
                unfold okL
                rw [Bool.and_eq_true, List.all_eq_true]
                rintro ⟨_, ha⟩
                have := ha n (List.mem_of_getElem? HN.out)
                rw [← HFN.out] at this
                cases this)])
            go_wp2
            go_roundw
            case rel => exact ⟨k + 1, vs, by omega, by go_num, Lib.hid (by rw [hns.out]; exact HNX.out.below HBI.out), Lib.hid (blk_keep HBI.out H0.out), Lib.hid (blk_keep HBI.out H1.out), Lib.hid (below_step HB.out HBI.out)⟩
            case measure => simp [intOf]; omega
          have HA' := Lib.hid (show (x.f1.take (j + 1)).all (fun n => (partW C n).2) = true by rw [List.take_add_one, HN.out, List.all_append, HA.out]; simp [← HFN.out])
          have HM' := Lib.hid (show (x.f1.take (j + 1)).map (fun n => (partW C n).1) = (x.f1.take j).map (fun n => (partW C n).1) ++ [ti] by rw [List.take_add_one, HN.out, List.map_append]; simp [← HFN.out])
          obtain ⟨A9, q9, hv9⟩ := Kd.R_slice HV9.out
          have hml : ((x.f1.take j).map (fun n => (partW C n).1)).length = j := by rw [List.length_map, List.length_take]; omega
          rw [hml] at hv9
          have HML := Lib.hid hml
          subst hv9
          clear hml
          have HXL := Lib.hid (flat_len HV.out)
          go_wp2_with (first | ((with_reducible refine gate_z (b := .append) (xs := #[.tmp 58, .tmp 60]) rfl ?_); at_builtin; refine Kd.R_append kI (w0 := W1) W1.heap.size rfl (.tmp 58) (.tmp 60) 23 3 (.int .i64 0) 8 rfl Try.underlying23 info3 rfl (Nat.zero_lt_one) (by omega) (.slice A9 j q9) _ ti [.int .i64 ti] (fun _ => True) (fun _ => False) rfl rfl rfl (fun _ hk => hk.elim) (fun _ _ => trivial) HV9.out HBI.out HBI.out.size (by have := HXL.out; have := HT.out; have := HML.out; omega) ?_; intro v5 W5 h5 hb5 hg5 hat5; rw [← HM'.out] at h5; have H5 := Lib.hid h5; have HB5 := Lib.hid hb5; clear h5 hb5 hg5 hat5))
          go_roundw
          case rel => exact ⟨j + 1, v5, by omega, rfl, by go_num, HA', H5, HB5⟩
          case measure => simp [intOf]; omega
        · have hfull : x.f1.take j = x.f1 := List.take_of_length_le (by omega)
          rw [hfull] at HA HV9
          have hok : okL C x = true := by unfold okL; rw [← HFA.out, HA.out]; rfl
          obtain ⟨A9, q9, hv9⟩ := Kd.R_slice HV9.out
          have hml : (x.f1.map (fun n => (partW C n).1)).length = x.f1.length := by simp
          rw [hml] at hv9
          have HML := Lib.hid hml
          subst hv9
          have hfrom : fromL C x = fi := by unfold fromL; rw [← HFA.out]; simp
          have hns := Lib.hid (show nxOf C (C.f11.take (k + 1)) = (nxOf C (C.f11.take k)).set fi ((nxOf C (C.f11.take k)).getD fi [] ++ x.f1.map (fun n => (partW C n).1)) by rw [hst.out, nxStep, if_pos hok, hfrom]; rfl)
          replace HNX := Lib.hid (HNX.out.below HBI.out)
          obtain ⟨nx, hnx⟩ : ∃ nx, nx = nxOf C (C.f11.take k) := ⟨_, rfl⟩
          rw [← hnx] at HNX hns
          have hvl : vs.length = C.f8.length := by rw [HNX.out.len, hnx]; exact (nx_ok C _).1
          have hnl := (nx_ok C (C.f11.take k)).2 (nx.getD fi []) (by
            rw [← hnx, List.getD_eq_getElem?_getD, List.getElem?_eq_getElem (by have := HNX.out.len; omega)]
            exact List.getElem_mem _)
          have hXL := flat_len HV.out
          have HSUM := Lib.hid (show (nx.getD fi []).length + x.f1.length ≤ 1000000 from by have := HT.out; have := hnl.2; omega)
          have hrow := HNX.out.row fi (by omega)
          obtain ⟨vf, hvf⟩ : ∃ v, v = vs.getD fi undef := ⟨_, rfl⟩
          have hcell : wr.cell? ⟨w.heap.size + 1 + 1, fi, none⟩ = some vf := by
            rw [blk_cell HNX.out.blk fi, hvf, List.getElem?_toArray, List.getD_eq_getElem?_getD, List.getElem?_eq_getElem (by omega)]
            rfl
          rw [← hvf] at hrow
          have HVF := Lib.hid hvf
          have HVL := Lib.hid hvl
          have HROW := Lib.hid hrow
          clear hrow hvl hvf hnx hnl hXL hok hml hfrom hfull HA HFA
          obtain ⟨Af, cf, hvs⟩ := Kd.R_slice HROW.out
          obtain ⟨rl, hrl⟩ : ∃ r, r = nx.getD fi [] := ⟨_, rfl⟩
          rw [← hrl] at hvs HROW HSUM hns
          have HRL := Lib.hid hrl
          clear hrl
          have H0i := Lib.hid (blk_keep HBI.out H0.out)
          have H1i := Lib.hid (blk_keep HBI.out H1.out)
          subst hvs
          have HBS := Lib.hid (show w.heap.size + 1 + 1 + 1 ≤ wr.heap.size from blk_lt HNX.out.blk)
          have HNE := Lib.hid (show some (w.heap.size + 1 + 1) ≠ (Value.slice Af (rl).length cf).ownBlock from fun e => by have := Kd.R_base HROW.out _ e.symm; omega)
          have HNE1 := Lib.hid (show some (w.heap.size + 1) ≠ (Value.slice Af (rl).length cf).ownBlock from fun e => by have := Kd.R_base HROW.out _ e.symm; omega)
          have HNE0 := Lib.hid (show some w.heap.size ≠ (Value.slice Af (rl).length cf).ownBlock from fun e => by have := Kd.R_base HROW.out _ e.symm; omega)
          go_wp2_with (first | ((with_reducible refine gate_z (b := .append) (xs := #[.tmp 68, .tmp 69]) rfl ?_); at_builtin; refine Kd.R_append_rows kI (Rr := kI.K wr) (w0 := wr) (w.heap.size + 1 + 1 + 1) rfl (.tmp 68) (.tmp 69) 23 3 (.int .i64 0) 8 rfl Try.underlying23 info3 rfl (by decide) (by omega) (.slice Af (rl).length cf) (rl) _ A9 x.f1.length q9 (fun _ => True) (fun _ => False) rfl rfl HROW.out (by rw [← HML.out]; exact (Kd.R_reads' HV9.out).2.2) (fun x cs hk => hk) (fun _ hk => hk.elim) (fun _ _ => trivial) (Below.refl _ _) HBS.out (by have := HSUM.out; omega) ?_; intro v5 W5 h5 hb5 hg5 hat5; obtain ⟨A5, c5, hv5⟩ := Kd.R_slice h5; rw [List.length_append, HML.out] at hv5; subst hv5; have g2 := blk_grown HNX.out.blk hg5 HNE.out; have q1 := hg5.cell hcell HNE.out; have q2 := blk_frozen g2 fi; have H0b := Lib.hid (blk_grown H0i.out hg5 HNE0.out); have H1b := Lib.hid (blk_grown H1i.out hg5 HNE1.out); have HG5 := Lib.hid hg5; have HAT5 := Lib.hid hat5; have H5 := Lib.hid h5; clear h5 hb5 hg5 hat5 g2 hcell))
          have HN5 := Lib.hid (HNX.out.put (i := fi) (by have := HVL.out; omega) (by omega) H5.out (by rw [← HVF.out]; exact HG5.out) (by rw [← HVF.out]; exact HAT5.out))
          have HB5 := Lib.hid ((pw_below_grown (below_step HB.out HBI.out) _ (below_step HB.out HBI.out).size HG5.out (fun k' he => by have := Kd.R_base HROW.out k' he; omega)).setCell (p := ⟨w.heap.size + 1 + 1, fi, none⟩) (by simp; omega) (.slice A5 (rl.length + x.f1.length) c5))
          go_roundw
          case rel => exact ⟨k + 1, _, by omega, by go_num, Lib.hid (by rw [hns.out]; exact HN5.out), Lib.hid (blk_far H0b.out (p := ⟨w.heap.size + 1 + 1, fi, none⟩) (by simp; omega) _), Lib.hid (blk_far H1b.out (p := ⟨w.heap.size + 1 + 1, fi, none⟩) (by simp) _), HB5⟩
          case measure => simp [intOf]; omega
    · have hfull : C.f11.take k = C.f11 := List.take_of_length_le (by omega)
      rw [hfull] at HNX
      have HOU := Lib.hid (show OutI WO WO.heap.size (w.heap.size + 1) C.f8.length [] [] from ⟨by have := H1.out; rw [List.map_nil, List.nil_append, List.length_nil, Nat.sub_zero, List.toArray_replicate]; exact this, rfl, by simp, fun i b h => by simp at h, List.nodup_nil⟩)
      have HKP := Lib.hid (KeepBut.refl WO (w.heap.size + 1) none)
      have HSZ := Lib.hid (show w.heap.size + 1 + 1 < WO.heap.size from blk_lt HNX.out.blk)
      clear hfull
      go_wp2
      clear hlt hk
      go_loopw [75] (fun i wr => ∃ (k : Nat) (bs : List Nat) (M : List (List Bool)), k ≤ C.f8.length ∧ i = .int .i64 k ∧ Hid (bs.length = k) ∧ Hid (OutI wr WO.heap.size (w.heap.size + 1) C.f8.length bs M) ∧ Hid (∀ i, i < k → ∀ j, (M.getD i []).getD j false = true ↔ Rt (nxOf C C.f11) i j) ∧ Hid (KeepBut WO wr (w.heap.size + 1) none) ∧ Hid (Below w.heap.size w wr)) (fun i _ => C.f8.length - (intOf i).toNat)
      case atStart => exact ⟨0, [], [], by omega, rfl, Lib.hid rfl, HOU, Lib.hid (fun i hi => by omega), HKP, HB⟩
      case round =>
        clear HOU HKP
        have HBO := HB
        clear HB
        obtain ⟨k, bs, M, hk, rfl, HBL, HOU, HOK, HKP, HB⟩ := hrel
        obtain ⟨WI, rfl⟩ : ∃ W : World, W = wr := ⟨_, rfl⟩
        by_cases hlt : k < C.f8.length
        · have hmk3 := fun W => run_make_row' (P := Try.prog) 50 4 (.bool false) 1 Try.underlying50 (by kernel_rfl) rfl .i64 .i64 C.f8.length (by omega) (by omega) W
          simp only [made_rep] at hmk3
          have H0k := Lib.hid (HKP.out.blk H0.out (by omega) (by simp))
          have hGs : w.heap.size + 1 < WI.heap.size := blk_lt HOU.out.blk
          have k8 := (cfg_cells (blk_alloc H0k.out (Obj.cells (Array.replicate C.f8.length (Value.bool false)) 4))).2.2.2.2.2.2.2.2.1
          have k8' := (cfg_cells H0k.out).2.2.2.2.2.2.2.2.1
          have g1 : WI.cell? ⟨w.heap.size + 1, k, none⟩ = some (.slice none 0 0) := by
            rw [blk_cell HOU.out.blk k, List.getElem?_toArray, List.getElem?_append_right (by rw [List.length_map]; have := HBL.out; omega), List.getElem?_replicate, if_pos (by rw [List.length_map]; have := HBL.out; omega)]
          have g2 : WI.frozen? ⟨w.heap.size + 1, k, none⟩ = false := blk_frozen HOU.out.blk k
          have HXG := Lib.hid (show (WI.setCell ⟨w.heap.size + 1, k, none⟩ (.slice (some ⟨WI.heap.size, 0, none⟩) C.f8.length C.f8.length)).heap[w.heap.size + 1]? = _ from blk_set HOU.out.blk k (.slice (some ⟨WI.heap.size, 0, none⟩) C.f8.length C.f8.length))
          have hxs : (WI.setCell ⟨w.heap.size + 1, k, none⟩ (.slice (some ⟨WI.heap.size, 0, none⟩) C.f8.length C.f8.length)).heap.size = WI.heap.size := World.size_setCell _ _ _
          have g3 : ((WI.setCell ⟨w.heap.size + 1, k, none⟩ (.slice (some ⟨WI.heap.size, 0, none⟩) C.f8.length C.f8.length)).alloc (Obj.cells (Array.replicate C.f8.length (Value.bool false)) 4)).cell? ⟨w.heap.size + 1, k, none⟩ = some (.slice (some ⟨WI.heap.size, 0, none⟩) C.f8.length C.f8.length) := by
            rw [blk_cell (blk_alloc HXG.out _) k, Array.getElem?_setIfInBounds]
            simp only [List.size_toArray, List.length_append, List.length_map, List.length_replicate, ↓reduceIte]
            rw [if_pos (by have := HBL.out; omega)]
          have HRW := Lib.hid (show ((WI.setCell ⟨w.heap.size + 1, k, none⟩ (.slice (some ⟨WI.heap.size, 0, none⟩) C.f8.length C.f8.length)).alloc (Obj.cells (Array.replicate C.f8.length (Value.bool false)) 4)).heap[WI.heap.size]? = some (Obj.cells (Array.replicate C.f8.length (Value.bool false)) 4) from blk_new_at _ _ hxs)
          have g4 : ((WI.setCell ⟨w.heap.size + 1, k, none⟩ (.slice (some ⟨WI.heap.size, 0, none⟩) C.f8.length C.f8.length)).alloc (Obj.cells (Array.replicate C.f8.length (Value.bool false)) 4)).cell? ⟨WI.heap.size, k, none⟩ = some (.bool false) := by
            rw [blk_cell HRW.out k, Array.getElem?_replicate, if_pos hlt]
          have g5 : ((WI.setCell ⟨w.heap.size + 1, k, none⟩ (.slice (some ⟨WI.heap.size, 0, none⟩) C.f8.length C.f8.length)).alloc (Obj.cells (Array.replicate C.f8.length (Value.bool false)) 4)).frozen? ⟨WI.heap.size, k, none⟩ = false := blk_frozen HRW.out k
          go_wp2_with fail
          have HG4 := Lib.hid (blk_alloc (blk_alloc HXG.out (Obj.cells ((Array.replicate C.f8.length (Value.bool false)).setIfInBounds k (Value.bool true)) 4)) (Obj.cells #[.int .i64 k] 3))
          have HR4 := Lib.hid (show (((WI.setCell ⟨w.heap.size + 1, k, none⟩ (.slice (some ⟨WI.heap.size, 0, none⟩) C.f8.length C.f8.length)).alloc (Obj.cells ((Array.replicate C.f8.length (Value.bool false)).setIfInBounds k (Value.bool true)) 4)).alloc (Obj.cells #[.int .i64 k] 3)).heap[WI.heap.size]? = some (Obj.cells (((List.replicate C.f8.length false).set k true).map Value.bool).toArray 4) by
            rw [blk_alloc (blk_new_at _ _ hxs), List.map_set, List.map_replicate, ← List.setIfInBounds_toArray, List.toArray_replicate])
          have HK4 := Lib.hid (show KeepBut WO (((WI.setCell ⟨w.heap.size + 1, k, none⟩ (.slice (some ⟨WI.heap.size, 0, none⟩) C.f8.length C.f8.length)).alloc (Obj.cells ((Array.replicate C.f8.length (Value.bool false)).setIfInBounds k (Value.bool true)) 4)).alloc (Obj.cells #[.int .i64 k] 3)) (w.heap.size + 1) none from keep_alloc (keep_alloc (HKP.out.set_ k _) _) _)
          have HKI := Lib.hid (show KeepBut WI (((WI.setCell ⟨w.heap.size + 1, k, none⟩ (.slice (some ⟨WI.heap.size, 0, none⟩) C.f8.length C.f8.length)).alloc (Obj.cells ((Array.replicate C.f8.length (Value.bool false)).setIfInBounds k (Value.bool true)) 4)).alloc (Obj.cells #[.int .i64 k] 3)) (w.heap.size + 1) none from keep_alloc (keep_alloc ((KeepBut.refl WI _ none).set_ k _) _) _)
          have HB4 := Lib.hid (show Below w.heap.size w (((WI.setCell ⟨w.heap.size + 1, k, none⟩ (.slice (some ⟨WI.heap.size, 0, none⟩) C.f8.length C.f8.length)).alloc (Obj.cells ((Array.replicate C.f8.length (Value.bool false)).setIfInBounds k (Value.bool true)) 4)).alloc (Obj.cells #[.int .i64 k] 3)) from ((HB.out.setCell (p := ⟨w.heap.size + 1, k, none⟩) (by simp) _).alloc (by rw [hxs]; exact HB.out.size) _).alloc (by rw [World.size_alloc, hxs]; have := HB.out.size; omega) _)
          have HQ4 := Lib.hid (Kd.Q_of_R (show Kd.R kI 3 (((WI.setCell ⟨w.heap.size + 1, k, none⟩ (.slice (some ⟨WI.heap.size, 0, none⟩) C.f8.length C.f8.length)).alloc (Obj.cells ((Array.replicate C.f8.length (Value.bool false)).setIfInBounds k (Value.bool true)) 4)).alloc (Obj.cells #[.int .i64 k] 3)) (WI.heap.size + 1) (fun _ => True) (.slice (some ⟨WI.heap.size + 1, 0, none⟩) 1 1) [(k : Int)] from by
            have := R_ints ((WI.setCell ⟨w.heap.size + 1, k, none⟩ (.slice (some ⟨WI.heap.size, 0, none⟩) C.f8.length C.f8.length)).alloc (Obj.cells ((Array.replicate C.f8.length (Value.bool false)).setIfInBounds k (Value.bool true)) 4)) [(k : Int)] (WI.heap.size + 1) (fun _ => True) (by rw [World.size_alloc, hxs]; omega) trivial (by simp)
            rw [World.size_alloc, hxs] at this
            exact this))
          have HS4 := Lib.hid (show WI.heap.size + 1 ≤ (((WI.setCell ⟨w.heap.size + 1, k, none⟩ (.slice (some ⟨WI.heap.size, 0, none⟩) C.f8.length C.f8.length)).alloc (Obj.cells ((Array.replicate C.f8.length (Value.bool false)).setIfInBounds k (Value.bool true)) 4)).alloc (Obj.cells #[.int .i64 k] 3)).heap.size by rw [World.size_alloc, World.size_alloc, hxs]; omega)
          have HWI := Lib.hid HKP.out.1
          have HNL := Lib.hid (nx_ok C C.f11)
          clear hmk3 k8 k8' g1 g2 g3 g4 g5 hxs HRW HXG H0k
          generalize hV4 : (((WI.setCell ⟨w.heap.size + 1, k, none⟩ (.slice (some ⟨WI.heap.size, 0, none⟩) C.f8.length C.f8.length)).alloc (Obj.cells ((Array.replicate C.f8.length (Value.bool false)).setIfInBounds k (Value.bool true)) 4)).alloc (Obj.cells #[.int .i64 k] 3)) = V4 at *
          clear hV4
          go_loopg [15] (C.f8.length) (fun gk v15 wr => ∃ (seen : List Bool) (td : List Int) (v : Value), v = v15 ∧ Hid (gk ≤ 1000) ∧ Hid (Bfs (nxOf C C.f11) k seen td gk) ∧ Hid (Kd.Q kI 3 wr (WI.heap.size + 1) (fun _ => True) v td) ∧ Hid (wr.heap[WI.heap.size]? = some (Obj.cells (seen.map Value.bool).toArray 4)) ∧ Hid (Below WI.heap.size V4 wr) ∧ Hid (WI.heap.size + 1 ≤ wr.heap.size))
          case atStart => exact ⟨_, _, _, rfl, Lib.hid hP, Lib.hid (by have := Bfs.start (nx := nxOf C C.f11) (i := k) (by rw [HNL.out.1]; exact hlt); rwa [HNL.out.1] at this), HQ4, HR4, Lib.hid (Below.refl _ _), HS4⟩
          case round =>
            clear HQ4 HR4 HS4
            obtain ⟨seen, td, v, rfl, HGK, HBF, HQ, HRW, HBW, HSW⟩ := hrel
            obtain ⟨WQ, rfl⟩ : ∃ W : World, W = wr := ⟨_, rfl⟩
            obtain ⟨Aq, cq, hv, hcq⟩ := Kd.Q_slice HQ.out
            cases td with
            | nil =>
              rw [List.length_nil] at hv
              subst hv
              have HOU2 := Lib.hid (HOU.out.snoc (V := WQ) HBL.out hlt ((HBW.out.block _ hGs).trans HG4.out) (fun i hi h1 => (HBW.out.block i hi).trans (HKI.out.2 i hi h1 (by simp))) HWI.out (by have := HSZ.out; omega) HRW.out (by rw [HBF.out.len]; exact HNL.out.1))
              have HOK2 := Lib.hid (show ∀ i, i < k + 1 → ∀ j, ((M ++ [seen]).getD i []).getD j false = true ↔ Rt (nxOf C C.f11) i j from fun i hi j => by
                have hml : M.length = k := by rw [← HOU.out.len]; exact HBL.out
                rcases Nat.lt_or_ge i k with h | h
                · have e : (M ++ [seen]).getD i [] = M.getD i [] := by rw [List.getD_eq_getElem?_getD, List.getD_eq_getElem?_getD, List.getElem?_append_left (by omega)]
                  rw [e]; exact HOK.out i h j
                · obtain rfl : i = k := by omega
                  have e : (M ++ [seen]).getD i [] = seen := by rw [List.getD_eq_getElem?_getD, List.getElem?_append_right (by omega), show i - M.length = 0 by omega]; rfl
                  rw [e]; exact HBF.out.final j)
              have HKP2 := Lib.hid (keep_up HK4.out HBW.out HWI.out)
              have HB2 := Lib.hid (show Below w.heap.size w WQ from HB4.out.trans (HBW.out.mono (by have := HB.out.size; omega)))
              go_wp2_with fail
              go_roundw
              case rel => exact ⟨k + 1, bs ++ [WI.heap.size], M ++ [seen], by omega, by go_num, Lib.hid (by rw [List.length_append, HBL.out]; rfl), HOU2, HOK2, HKP2, HB2⟩
              case measure => simp [intOf]; omega
            | cons p td =>
              obtain ⟨⟨hp0, hp1⟩, hm, hbi⟩ := HBF.out.pop
              obtain ⟨p, rfl⟩ : ∃ n : Nat, p = (n : Int) := ⟨p.toNat, by omega⟩
              rw [Int.toNat_natCast] at hbi
              rw [HNL.out.1] at hp1
              have hpl : p < C.f8.length := by omega
              have HBI := Lib.hid hbi
              subst hv
              obtain ⟨gq, oq, cap, hv, hbg, hbl, cells, hcb⟩ := Kd.Q_form HQ.out (by simp)
              injection hv with hA hn hcap
              subst hA; subst hcap
              have HNQ := Lib.hid (HNX.out.keep (keep_up HK4.out HBW.out HWI.out) (by omega) (by omega))
              have q0 : WQ.cell? ⟨gq, oq, none⟩ = some (.int .i64 p) := by
                have := (Kd.Q_cell (enc := Value.int .i64) (h1 := fun _ => rfl) (0 : Int) HQ.out 0 (by omega) (by simp)).1
                simpa [rdOf] using this
              obtain ⟨An, cn, q1, hvp, hCn⟩ := HNQ.out.at_ (i := p) (by rw [HNL.out.1]; exact hpl)
              have HVP := Lib.hid hvp
              obtain ⟨rp, hrp⟩ : ∃ r, r = (nxOf C C.f11).getD p [] := ⟨_, rfl⟩
              rw [← hrp] at q1 HVP
              have HRP := Lib.hid hrp
              clear hrp hvp hCn hbi hcb
              by_cases hc1 : cq = 1
              · subst hc1
                have HQ1 := Lib.hid (show Kd.Q kI 3 WQ (WI.heap.size + 1) (fun _ => True) (.slice (some ⟨gq, oq, none⟩) td.length 0) td by simpa using Kd.Q_drop (k := 1) HQ.out (by simp))
                go_wp2_with fail
                clear q0 q1
                go_loopw [15, 106] (fun v15 i wi => ∃ (j : Nat) (seen : List Bool) (td : List Int) (v : Value), v = v15 ∧ j ≤ rp.length ∧ i = .int .i64 j ∧ Hid (BfsIn (nxOf C C.f11) k p j seen td (gk - 1)) ∧ Hid (Kd.Q kI 3 wi (WI.heap.size + 1) (fun _ => True) v td) ∧ Hid (wi.heap[WI.heap.size]? = some (Obj.cells (seen.map Value.bool).toArray 4)) ∧ Hid (Below WI.heap.size V4 wi) ∧ Hid (WI.heap.size + 1 ≤ wi.heap.size)) (fun _ i _ => rp.length - (intOf i).toNat)
                case atStart => exact ⟨0, seen, td, _, rfl, by omega, rfl, HBI, HQ1, HRW, HBW, HSW⟩
                case round =>
                  clear HBI HQ1 HQ HRW HBW HSW HNQ HBF
                  obtain ⟨j, seen, td, v, rfl, hj, rfl, HBI, HQ, HRW, HBW, HSW⟩ := hrel
                  obtain ⟨WJ, rfl⟩ : ∃ W : World, W = wr := ⟨_, rfl⟩
                  obtain ⟨Aq, cq, hv, hcq⟩ := Kd.Q_slice HQ.out
                  have hrl : rp.length ≤ 1000000 := by have := (HNL.out.2 rp (by rw [HRP.out, List.getD_eq_getElem?_getD, List.getElem?_eq_getElem (by rw [HNL.out.1]; exact hpl)]; exact List.getElem_mem _)).2; have := HT.out; omega
                  by_cases hjt : j < rp.length
                  · have HNJ := Lib.hid (HNX.out.keep (keep_up HK4.out HBW.out HWI.out) (by omega) (by omega))
                    obtain ⟨An', cn', _, hvp', hCn⟩ := HNJ.out.at_ (i := p) (by rw [HNL.out.1]; exact hpl)
                    rw [← HRP.out] at hvp' hCn
                    rw [HVP.out] at hvp'
                    injection hvp' with hA1 hA2 hA3
                    subst hA1
                    clear hA2 hA3
                    obtain ⟨adn, q, eA, n0, HN⟩ := at_I hCn j hjt
                    subst eA
                    have hqb : 0 ≤ q ∧ q < C.f8.length := (HNL.out.2 rp (by rw [HRP.out, List.getD_eq_getElem?_getD, List.getElem?_eq_getElem (by rw [HNL.out.1]; exact hpl)]; exact List.getElem_mem _)).1 q (List.mem_of_getElem? HN.out)
                    obtain ⟨q, rfl⟩ : ∃ n : Nat, q = (n : Int) := ⟨q.toNat, by omega⟩
                    have hql : q < C.f8.length := by omega
                    have hsl : seen.length = C.f8.length := by rw [HBI.out.len]; exact HNL.out.1
                    obtain ⟨sb, hsb⟩ : ∃ b, b = seen.getD q false := ⟨_, rfl⟩
                    have HHN := Lib.hid (show ((nxOf C C.f11).getD p [])[j]? = some (q : Int) by rw [← HRP.out]; exact HN.out)
                    have g1 : WJ.cell? ⟨w.heap.size + 1, k, none⟩ = some (.slice (some ⟨WI.heap.size, 0, none⟩) C.f8.length C.f8.length) := by
                      rw [World.cell?_of_block (w := V4) (HBW.out.block _ hGs), blk_cell HG4.out k, Array.getElem?_setIfInBounds]
                      simp only [List.size_toArray, List.length_append, List.length_map, List.length_replicate, ↓reduceIte]
                      rw [if_pos (by have := HBL.out; omega)]
                    have g2 : WJ.cell? ⟨WI.heap.size, q, none⟩ = some (.bool sb) := by
                      rw [blk_cell HRW.out q, hsb, List.getElem?_toArray, List.getElem?_map, List.getD_eq_getElem?_getD, List.getElem?_eq_getElem (by omega)]
                      rfl
                    have g3 : WJ.frozen? ⟨WI.heap.size, q, none⟩ = false := blk_frozen HRW.out q
                    have HSB := Lib.hid hsb
                    have HSL := Lib.hid hsl
                    clear hsb hsl hqb hCn
                    cases sb
                    case true =>
                      have HBI2 := Lib.hid (HBI.out.skip HHN.out (by rw [Int.toNat_natCast]; exact HSB.out.symm))
                      clear hv
                      go_wp2
                      go_roundw
                      case rel => exact ⟨j + 1, seen, td, v, rfl, by omega, by go_num, HBI2, HQ, HRW, HBW, HSW⟩
                      case measure => simp [intOf]; omega
                    case false =>
                      have HBI2 := Lib.hid (HBI.out.push HHN.out (by rw [Int.toNat_natCast]; exact HSB.out.symm) (by omega) (by rw [HNL.out.1]; omega))
                      have HTL := Lib.hid (show td.length ≤ 1000 from by have := HBI.out.meas; have := HGK.out; omega)
                      subst hv
                      have HX := Lib.hid (blk_set HRW.out q (.bool true))
                      have HQX := Lib.hid (Kd.Q_far (Kd.Q_mono (Kd.Q_bound HQ.out) (fun k hk => (hk.2.1 : WI.heap.size + 1 ≤ k))) (p := ⟨WI.heap.size, q, none⟩) (fun k hk => by show k ≠ WI.heap.size; have : WI.heap.size + 1 ≤ k := hk; omega) (.bool true))
                      have HSX := Lib.hid (show WI.heap.size + 1 ≤ (WJ.setCell ⟨WI.heap.size, q, none⟩ (.bool true)).heap.size by rw [World.size_setCell]; exact HSW.out)
                      go_wp2_with (first | ((with_reducible refine gate_z (b := .append) (xs := #[.tmp 124, .tmp 126]) rfl ?_); at_builtin; refine Kd.Q_append kI (w0 := WJ.setCell ⟨WI.heap.size, q, none⟩ (.bool true)) (WI.heap.size + 1) rfl (.tmp 124) (.tmp 126) 23 3 (.int .i64 0) 8 rfl Try.underlying23 info3 rfl (Nat.zero_lt_one) (by omega) (.slice Aq td.length cq) td (q : Int) [.int .i64 q] (fun k => WI.heap.size + 1 ≤ k) (fun _ => False) rfl (by rw [World.size_setCell]; rfl) rfl (fun _ hk => hk.elim) (fun k hk => Nat.le_trans HSX.out hk) HQX.out (Below.refl _ _) HSX.out (by have := HTL.out; omega) ?_; intro v5 W5 h5 hb5 hg5 hat5; have H5 := Lib.hid (Kd.Q_mono h5 (fun _ _ => trivial)); have HG5 := Lib.hid hg5; have HB5 := Lib.hid hb5; clear h5 hb5 hg5 hat5))
                      have hne : some WI.heap.size ≠ (Value.slice Aq td.length cq).ownBlock := fun e => by have := Kd.Q_base HQ.out _ e.symm; omega
                      go_roundw
                      case rel => exact ⟨j + 1, seen.set q true, td ++ [(q : Int)], v5, rfl, by omega, by go_num, by rw [Int.toNat_natCast] at HBI2; exact HBI2, H5, Lib.hid (by rw [blk_grown HX.out HG5.out hne, List.map_set, ← List.setIfInBounds_toArray]), Lib.hid ((HBW.out.setCell (p := ⟨WI.heap.size, q, none⟩) (Nat.le_refl _) _).trans (HB5.out.mono (by omega))), Lib.hid (Nat.le_trans HSX.out HG5.out.size)⟩
                      case measure => simp [intOf]; omega
                  · have HF := Lib.hid (HBI.out.done (by rw [← HRP.out]; omega))
                    clear hv
                    go_wp2
                    go_roundg (gk - 1)
                    case rel => exact ⟨seen, td, v, rfl, Lib.hid (by have := HGK.out; omega), HF, HQ, HRW, HBW, HSW⟩
                    case measure => omega
              · have HQ1 := Lib.hid (show Kd.Q kI 3 WQ (WI.heap.size + 1) (fun _ => True) (.slice (some ⟨gq, oq + 1, none⟩) td.length (cq - 1)) td by
                  have := Kd.Q_drop (k := 1) HQ.out (by simp)
                  rw [if_neg hc1] at this
                  simpa [Addr.add, kI, Kd.int, Kd.scalar] using this)
                go_wp2_with fail
                clear q0 q1
                go_loopw [15, 106] (fun v15 i wi => ∃ (j : Nat) (seen : List Bool) (td : List Int) (v : Value), v = v15 ∧ j ≤ rp.length ∧ i = .int .i64 j ∧ Hid (BfsIn (nxOf C C.f11) k p j seen td (gk - 1)) ∧ Hid (Kd.Q kI 3 wi (WI.heap.size + 1) (fun _ => True) v td) ∧ Hid (wi.heap[WI.heap.size]? = some (Obj.cells (seen.map Value.bool).toArray 4)) ∧ Hid (Below WI.heap.size V4 wi) ∧ Hid (WI.heap.size + 1 ≤ wi.heap.size)) (fun _ i _ => rp.length - (intOf i).toNat)
                case atStart => exact ⟨0, seen, td, _, rfl, by omega, rfl, HBI, HQ1, HRW, HBW, HSW⟩
                case round =>
                  clear HBI HQ1 HQ HRW HBW HSW HNQ HBF
                  obtain ⟨j, seen, td, v, rfl, hj, rfl, HBI, HQ, HRW, HBW, HSW⟩ := hrel
                  obtain ⟨WJ, rfl⟩ : ∃ W : World, W = wr := ⟨_, rfl⟩
                  obtain ⟨Aq, cq, hv, hcq⟩ := Kd.Q_slice HQ.out
                  have hrl : rp.length ≤ 1000000 := by have := (HNL.out.2 rp (by rw [HRP.out, List.getD_eq_getElem?_getD, List.getElem?_eq_getElem (by rw [HNL.out.1]; exact hpl)]; exact List.getElem_mem _)).2; have := HT.out; omega
                  by_cases hjt : j < rp.length
                  · have HNJ := Lib.hid (HNX.out.keep (keep_up HK4.out HBW.out HWI.out) (by omega) (by omega))
                    obtain ⟨An', cn', _, hvp', hCn⟩ := HNJ.out.at_ (i := p) (by rw [HNL.out.1]; exact hpl)
                    rw [← HRP.out] at hvp' hCn
                    rw [HVP.out] at hvp'
                    injection hvp' with hA1 hA2 hA3
                    subst hA1
                    clear hA2 hA3
                    obtain ⟨adn, q, eA, n0, HN⟩ := at_I hCn j hjt
                    subst eA
                    have hqb : 0 ≤ q ∧ q < C.f8.length := (HNL.out.2 rp (by rw [HRP.out, List.getD_eq_getElem?_getD, List.getElem?_eq_getElem (by rw [HNL.out.1]; exact hpl)]; exact List.getElem_mem _)).1 q (List.mem_of_getElem? HN.out)
                    obtain ⟨q, rfl⟩ : ∃ n : Nat, q = (n : Int) := ⟨q.toNat, by omega⟩
                    have hql : q < C.f8.length := by omega
                    have hsl : seen.length = C.f8.length := by rw [HBI.out.len]; exact HNL.out.1
                    obtain ⟨sb, hsb⟩ : ∃ b, b = seen.getD q false := ⟨_, rfl⟩
                    have HHN := Lib.hid (show ((nxOf C C.f11).getD p [])[j]? = some (q : Int) by rw [← HRP.out]; exact HN.out)
                    have g1 : WJ.cell? ⟨w.heap.size + 1, k, none⟩ = some (.slice (some ⟨WI.heap.size, 0, none⟩) C.f8.length C.f8.length) := by
                      rw [World.cell?_of_block (w := V4) (HBW.out.block _ hGs), blk_cell HG4.out k, Array.getElem?_setIfInBounds]
                      simp only [List.size_toArray, List.length_append, List.length_map, List.length_replicate, ↓reduceIte]
                      rw [if_pos (by have := HBL.out; omega)]
                    have g2 : WJ.cell? ⟨WI.heap.size, q, none⟩ = some (.bool sb) := by
                      rw [blk_cell HRW.out q, hsb, List.getElem?_toArray, List.getElem?_map, List.getD_eq_getElem?_getD, List.getElem?_eq_getElem (by omega)]
                      rfl
                    have g3 : WJ.frozen? ⟨WI.heap.size, q, none⟩ = false := blk_frozen HRW.out q
                    have HSB := Lib.hid hsb
                    have HSL := Lib.hid hsl
                    clear hsb hsl hqb hCn
                    cases sb
                    case true =>
                      have HBI2 := Lib.hid (HBI.out.skip HHN.out (by rw [Int.toNat_natCast]; exact HSB.out.symm))
                      clear hv
                      go_wp2
                      go_roundw
                      case rel => exact ⟨j + 1, seen, td, v, rfl, by omega, by go_num, HBI2, HQ, HRW, HBW, HSW⟩
                      case measure => simp [intOf]; omega
                    case false =>
                      have HBI2 := Lib.hid (HBI.out.push HHN.out (by rw [Int.toNat_natCast]; exact HSB.out.symm) (by omega) (by rw [HNL.out.1]; omega))
                      have HTL := Lib.hid (show td.length ≤ 1000 from by have := HBI.out.meas; have := HGK.out; omega)
                      subst hv
                      have HX := Lib.hid (blk_set HRW.out q (.bool true))
                      have HQX := Lib.hid (Kd.Q_far (Kd.Q_mono (Kd.Q_bound HQ.out) (fun k hk => (hk.2.1 : WI.heap.size + 1 ≤ k))) (p := ⟨WI.heap.size, q, none⟩) (fun k hk => by show k ≠ WI.heap.size; have : WI.heap.size + 1 ≤ k := hk; omega) (.bool true))
                      have HSX := Lib.hid (show WI.heap.size + 1 ≤ (WJ.setCell ⟨WI.heap.size, q, none⟩ (.bool true)).heap.size by rw [World.size_setCell]; exact HSW.out)
                      go_wp2_with (first | ((with_reducible refine gate_z (b := .append) (xs := #[.tmp 124, .tmp 126]) rfl ?_); at_builtin; refine Kd.Q_append kI (w0 := WJ.setCell ⟨WI.heap.size, q, none⟩ (.bool true)) (WI.heap.size + 1) rfl (.tmp 124) (.tmp 126) 23 3 (.int .i64 0) 8 rfl Try.underlying23 info3 rfl (Nat.zero_lt_one) (by omega) (.slice Aq td.length cq) td (q : Int) [.int .i64 q] (fun k => WI.heap.size + 1 ≤ k) (fun _ => False) rfl (by rw [World.size_setCell]; rfl) rfl (fun _ hk => hk.elim) (fun k hk => Nat.le_trans HSX.out hk) HQX.out (Below.refl _ _) HSX.out (by have := HTL.out; omega) ?_; intro v5 W5 h5 hb5 hg5 hat5; have H5 := Lib.hid (Kd.Q_mono h5 (fun _ _ => trivial)); have HG5 := Lib.hid hg5; have HB5 := Lib.hid hb5; clear h5 hb5 hg5 hat5))
                      have hne : some WI.heap.size ≠ (Value.slice Aq td.length cq).ownBlock := fun e => by have := Kd.Q_base HQ.out _ e.symm; omega
                      go_roundw
                      case rel => exact ⟨j + 1, seen.set q true, td ++ [(q : Int)], v5, rfl, by omega, by go_num, by rw [Int.toNat_natCast] at HBI2; exact HBI2, H5, Lib.hid (by rw [blk_grown HX.out HG5.out hne, List.map_set, ← List.setIfInBounds_toArray]), Lib.hid ((HBW.out.setCell (p := ⟨WI.heap.size, q, none⟩) (Nat.le_refl _) _).trans (HB5.out.mono (by omega))), Lib.hid (Nat.le_trans HSX.out HG5.out.size)⟩
                      case measure => simp [intOf]; omega
                  · have HF := Lib.hid (HBI.out.done (by rw [← HRP.out]; omega))
                    clear hv
                    go_wp2
                    go_roundg (gk - 1)
                    case rel => exact ⟨seen, td, v, rfl, Lib.hid (by have := HGK.out; omega), HF, HQ, HRW, HBW, HSW⟩
                    case measure => omega
        · obtain rfl : k = C.f8.length := by omega
          have HFIN := Lib.hid (show ReachOk C M from ⟨by rw [← HOU.out.len]; exact HBL.out, fun i hi => ⟨(HOU.out.row i _ (List.getElem?_eq_getElem (by rw [HBL.out]; exact hi))).2.1, HOK.out i hi⟩⟩)
          go_wp2
          rw [Exit.noGoto_ret]
          go_ret
          exact ⟨w.heap.size + 1, WO.heap.size, bs, M, rfl, by omega, by have := HSZ.out; omega, HOU.out, HBL.out, HFIN.out, HB.out⟩
end Go.Proofs.Ytehbabkgaecoaaa
