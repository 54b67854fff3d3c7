/- What 'Gaps' answers: the arcs between. -/
import Derived.Test.YthnpacnmghlkmaaTaken
import Derived.Test.YthnpacnmghlkmaaPx2
namespace Go.Proofs.Ythnpacnmghlkmaa
open Go.RowKit Go.Shelf Go.Proofs.Ythnpacnmghlkmaa.Px Go.Proofs.YthnpacnmghlkmaaW.PrintWords Go.Proofs.YthnpacnmghlkmaaW.PrintLast
attribute [local go_sem] Oper.semAt_some

theorem may_l0 (n : Int) (l : List S52) (hl : l.length ≤ 35184372088832) : ∀ (k : Nat) (x : Int), 0 ≤ x → ring_may.l0 k n l (l.length : Int) x = some 0 → ∀ i : Int, x ≤ i → i < l.length → ArcOk n (rd_T52 l i) := by
  intro k
  induction k with
  | zero => intro x _ h; simp [ring_may.l0] at h
  | succ k ih =>
    intro x hx h i hi hil
    simp only [ring_may.l0] at h
    rw [if_pos (by omega), if_pos hx, if_pos (by omega)] at h
    by_cases h1 : (rd_T52 l x).f0 < 0
    · rw [if_pos h1] at h; simp at h
    rw [if_neg h1] at h
    by_cases h2 : (rd_T52 l x).f0 ≥ n
    · rw [if_pos h2] at h; simp at h
    rw [if_neg h2] at h
    by_cases h3 : (rd_T52 l x).f1 < 0
    · rw [if_pos h3] at h; simp at h
    rw [if_neg h3] at h
    by_cases h4 : (rd_T52 l x).f1 > n
    · rw [if_pos h4] at h; simp at h
    rw [if_neg h4] at h
    by_cases he : i = x
    · subst he
      exact ⟨by omega, by omega, by omega, by omega⟩
    · rw [wrap_in _ (by omega) (by omega)] at h
      exact ih (x + 1) (by omega) h i (by omega) hil
theorem may_ok {k : Nat} {n : Int} {l : List S52} (hl : l.length ≤ 35184372088832) (h : ring_may.f k n l = some 0) : 1 ≤ n ∧ n ≤ 1048576 ∧ ∀ a ∈ l, ArcOk n a := by
  have hj : ∀ b, ring_may.j0 k n l b = some 0 → b = false ∧ ∃ k', ring_may.l0 k' n l (l.length : Int) 0 = some 0 := by
    intro b hb
    cases k with
    | zero => simp [ring_may.j0] at hb
    | succ k =>
      simp only [ring_may.j0] at hb
      by_cases c : b = true
      · rw [if_pos c] at hb; simp at hb
      · rw [if_neg c] at hb; exact ⟨by simpa using c, k, hb⟩
  unfold ring_may.f at h
  by_cases c : n < 1
  · rw [if_pos c] at h; exact absurd (hj _ h).1 (by simp)
  · rw [if_neg c] at h
    obtain ⟨h1, k', h2⟩ := hj _ h
    refine ⟨by omega, by simpa using h1, fun a ha => ?_⟩
    obtain ⟨i, hi, rfl⟩ := List.getElem_of_mem ha
    have := may_l0 n l hl k' 0 (by omega) h2 i (by omega) (by omega)
    simpa [rd_T52, List.getD, hi] using this

/-! What the loops make. -/
def hasAt (has : List Bool) (i : Int) : Bool := has.getD i.toNat false
def gapLen (n : Int) (hn : 1 ≤ n) (has : List Bool) (i : Int) : Int := (((upto (placeAt i n hn) n.toNat).takeWhile (fun p => !hasAt has p.1)).length : Nat)
def gapStep (n : Int) (hn : 1 ≤ n) (has : List Bool) (i : Int) : List S52 := if hasAt has i = true ∨ hasAt has ((i - 1) % n) = false then [] else [⟨i, gapLen n hn has i⟩]
def gapsTo (n : Int) (hn : 1 ≤ n) (has : List Bool) : Nat → List S52
  | 0 => []
  | i + 1 => gapsTo n hn has i ++ gapStep n hn has i
def gapsOf (n : Int) (l : List S52) : List S52 :=
  if hn : 1 ≤ n then (if countOf (takenOf n hn (List.replicate n.toNat false) l) = 0 then [⟨0, n⟩] else gapsTo n hn (takenOf n hn (List.replicate n.toNat false) l) n.toNat) else []
def ring_Gaps.f (k : Nat) (l : List S52) (n : Int) : Option (List S52 × Int) := if l.length ≤ 35184372088832 then (ring_may.f k n l).bind fun e => (if e = 0 then some (gapsOf n l, 0) else some ([], e)) else none

/-- What was cells lies as it lay. -/
def CellsKept (X Y : World) : Prop := ∀ (k : Nat) (cs : Array Value) (t : TypeId) (fr : Nat × Nat), X.heap[k]? = some (Obj.cells cs t fr) → Y.heap[k]? = some (Obj.cells cs t fr)
theorem cells_kept {X Y : World} {row : Option Nat} {B : Nat} (hg : X.grownBy Y row) (hr : ∀ r, row = some r → B ≤ r ∧ ∃ o : Obj, X.heap[r]? = some o ∧ o.isCells = false) : CellsKept X Y := fun g cs t fr h =>
  (hg.block g (Array.getElem?_eq_some_iff.1 h).1 (fun e' => by obtain ⟨_, o, ho, hc⟩ := hr g e'.symm; rw [h] at ho; cases ho; cases hc)).trans h
theorem R_cells {α : Type} {d : Kd α} {e base : Nat} {X Y : World} {v : Value} {xs : List α} (h : d.R e X base (fun _ => True) v xs) (hc : CellsKept X Y) : d.R e Y base (fun _ => True) v xs :=
  Kd.R_mono (Kd.R_step (Kd.R_bound h) (fun k ho _ => by obtain ⟨_, _, _, q, _, cells, hcc⟩ := ho; rw [hcc]; exact hc _ _ _ _ hcc)) (fun _ _ => trivial)
/-- What the loop over the places keeps: the row of bools and its box, what has come, what lay, the marks. -/
def GK (w : World) (s g cap N : Nat) (has : List Bool) (vo : Value) (out : List S52) (Ds : List Nat) (W : World) : Prop :=
  W.heap[s]? = some (Obj.cells #[.slice (some ⟨g, 0, none⟩) N cap] 67 (0, 0)) ∧ Kd.R Kd.bool 4 W w.heap.size (fun _ => True) (.slice (some ⟨g, 0, none⟩) N cap) has ∧ Kd.R k52 52 W w.heap.size (fun _ => True) vo out ∧ Below w.heap.size w W ∧ Marked w.heap.size Ds W
theorem gk_step {w : World} {s g cap N : Nat} {has : List Bool} {vo : Value} {out : List S52} {Ds : List Nat} {X Y : World} {row : Option Nat} {B : Nat} (hB : w.heap.size ≤ B) (hDs : ∀ D ∈ Ds, D < B) (h : GK w s g cap N has vo out Ds X)
    (hg : X.grownBy Y row) (hr : ∀ r, row = some r → B ≤ r ∧ ∃ o : Obj, X.heap[r]? = some o ∧ o.isCells = false) : GK w s g cap N has vo out Ds Y := by
  obtain ⟨h1, h2, h3, hb, hm⟩ := h
  have hc := cells_kept hg hr
  refine ⟨hc _ _ _ _ h1, R_cells h2 hc, R_cells h3 hc, hb.grown hg hb.size (fun k e => by obtain ⟨h, _⟩ := hr k e; omega), hm.1, fun D hD => ?_⟩
  obtain ⟨g1, g2⟩ := hm.2 D hD
  refine ⟨g1, (hg.block D (Array.getElem?_eq_some_iff.1 g2).1 (fun e => ?_)).trans g2⟩
  obtain ⟨h, _⟩ := hr D e.symm
  have := hDs D hD
  omega
theorem gk_drew {w : World} {s g cap N : Nat} {has : List Bool} {vo : Value} {out : List S52} {Ds : List Nat} {X : World} (h : GK w s g cap N has vo out Ds X) (n : Nat) : GK w s g cap N has vo out Ds (X.drewN n) :=
  ⟨h.1, Kd.R_drewN h.2.1 n, Kd.R_drewN h.2.2.1 n, pw_below_drewN h.2.2.2.1 n, h.2.2.2.2⟩
theorem gk_alloc {w : World} {s g cap N : Nat} {has : List Bool} {vo : Value} {out : List S52} {Ds : List Nat} {X : World} (h : GK w s g cap N has vo out Ds X) (o : Obj) : GK w s g cap N has vo out Ds (X.alloc o) :=
  gk_step (B := X.heap.size) h.2.2.2.1.size (fun D hD => blk_lt (h.2.2.2.2.2 D hD).2) h (World.grownBy_alloc X o none) (fun r e => by cases e)
theorem gk_cell {w : World} {s g cap N : Nat} {has : List Bool} {vo : Value} {out : List S52} {Ds : List Nat} {X : World} (h : GK w s g cap N has vo out Ds X) (hl : has.length = N) (i : Nat) (hi : i < N) : X.cell? ⟨g, i, none⟩ = some (.bool (hasAt has i)) := by
  subst hl
  exact (Kd.R_cell false h.2.1 i (by omega) (by omega)).1
theorem R_put_far {α : Type} {d : Kd α} {e base : Nat} {X : World} {v : Value} {xs : List α} (hE : d.E = []) (h : d.R e X base (fun _ => True) v xs) {G : Nat} (hG : some G ≠ v.ownBlock) (i : Nat) (u : Value) : d.R e (X.setCell ⟨G, i, none⟩ u) base (fun _ => True) v xs :=
  Kd.R_mono (Kd.R_far (Kd.R_tight hE h) (p := ⟨G, i, none⟩) (fun k hk e => hG (by rw [← hk, e])) u) (fun _ _ => trivial)
theorem gk_put {w : World} {s g cap N : Nat} {has : List Bool} {vo : Value} {out : List S52} {Ds : List Nat} {X : World} (h : GK w s g cap N has vo out Ds X) {G : Nat} (hs : s ≠ G) (hg : g ≠ G) (ho : some G ≠ vo.ownBlock) (hw : w.heap.size ≤ G) (i : Nat) (u : Value) : GK w s g cap N has vo out Ds (X.setCell ⟨G, i, none⟩ u) :=
  ⟨blk_far h.1 (p := ⟨G, i, none⟩) hs u, R_put_far rfl h.2.1 (fun e => hg (by simpa [Value.ownBlock] using e.symm)) i u, R_put_far rfl h.2.2.1 ho i u, below_set h.2.2.2.1 hw, h.2.2.2.2.1, fun D hD => ⟨(h.2.2.2.2.2 D hD).1, (KeepsOthers.setCell X _ _).same D _ (h.2.2.2.2.2 D hD).2 rfl⟩⟩
theorem gk_app {w : World} {s g cap N : Nat} {has : List Bool} {vo v' : Value} {out out' : List S52} {Ds : List Nat} {X Y : World} (h : GK w s g cap N has vo out Ds X) (hg : X.grownBy Y vo.ownBlock) (ho : Kd.R k52 52 Y w.heap.size (fun _ => True) v' out') (hb : Below w.heap.size w Y) : GK w s g cap N has v' out' Ds Y := by
  obtain ⟨h1, h2, h3, _, hm⟩ := h
  refine ⟨blk_grown h1 hg (Kd.R_ne h3 h1 (by decide)), Kd.R_over' h2 (Kd.R_typed h3) (by decide) hg, ho, hb, hm.1, fun D hD => ⟨(hm.2 D hD).1, blk_grown (hm.2 D hD).2 hg (fun e => ?_)⟩⟩
  obtain ⟨cs, hcs⟩ := Kd.R_typed h3 D e.symm
  rw [(hm.2 D hD).2] at hcs; cases hcs
theorem gk_mark {w : World} {s g cap N : Nat} {has : List Bool} {vo : Value} {out : List S52} {Ds : List Nat} {X : World} {D : Nat} (h : GK w s g cap N has vo out Ds X) (hn : D ∉ Ds) (hw : w.heap.size ≤ D) (hK : X.heap[D]? = some (.deferred (some []))) : GK w s g cap N has vo out (D :: Ds) X :=
  ⟨h.1, h.2.1, h.2.2.1, h.2.2.2.1, List.nodup_cons.2 ⟨hn, h.2.2.2.2.1⟩, fun D' h' => by
    rcases List.mem_cons.1 h' with rfl | h'
    · exact ⟨hw, hK⟩
    · exact h.2.2.2.2.2 D' h'⟩
theorem gapsTo_len {n : Int} {hn : 1 ≤ n} {has : List Bool} (x : Nat) : (gapsTo n hn has x).length ≤ x := by
  induction x with
  | zero => simp [gapsTo]
  | succ x ih =>
    have : (gapStep n hn has x).length ≤ 1 := by unfold gapStep; split <;> simp
    rw [gapsTo, List.length_append]; omega
/-- A round of the inner range. -/
def GIn (w : World) (s g cap N : Nat) (has : List Bool) (vo : Value) (out : List S52) (Ds : List Nat) (G : Nat) (x : Int) (pre : List (PL N)) (W : World) : Prop :=
  GK w s g cap N has vo out Ds W ∧ W.heap[G]? = some (Obj.cells #[.int .i64 x, .int .i64 pre.length] 52 (0, 0)) ∧ ∀ p ∈ pre, hasAt has p.1 = false
def GEx (w : World) (s g cap N : Nat) (has : List Bool) (vo : Value) (out : List S52) (Ds : List Nat) (G : Nat) (x : Int) (c : Code) (pre : List (PL N)) (W : World) : Prop :=
  c = .exit 2 ∧ GK w s g cap N has vo out Ds W ∧ ∃ pre' p, pre = pre' ++ [p] ∧ hasAt has p.1 = true ∧ (∀ p ∈ pre', hasAt has p.1 = false) ∧ W.heap[G]? = some (Obj.cells #[.int .i64 x, .int .i64 pre'.length] 52 (0, 0))
theorem gin_own {w : World} {s g cap N : Nat} {has : List Bool} {vo : Value} {out : List S52} {Ds : List Nat} {G : Nat} {x : Int} {B : Nat} (hB : w.heap.size ≤ B) (hDs : ∀ D ∈ Ds, D < B) : OwnFrom B (GIn w s g cap N has vo out Ds G x) :=
  fun _ _ _ _ ⟨h1, h2, h3⟩ hg hr => ⟨gk_step hB hDs h1 hg hr, cells_kept hg hr _ _ _ _ h2, h3⟩
theorem gex_own {w : World} {s g cap N : Nat} {has : List Bool} {vo : Value} {out : List S52} {Ds : List Nat} {G : Nat} {x : Int} {B : Nat} (hB : w.heap.size ≤ B) (hDs : ∀ D ∈ Ds, D < B) (c : Code) : OwnFrom B (GEx w s g cap N has vo out Ds G x c) :=
  fun _ _ _ _ ⟨h1, h2, a, b, h3, h4, h5, h6⟩ hg hr => ⟨h1, gk_step hB hDs h2 hg hr, a, b, h3, h4, h5, cells_kept hg hr _ _ _ _ h6⟩
theorem takeWhile_all {α : Type} (p : α → Bool) (l : List α) (h : ∀ x ∈ l, p x = true) : l.takeWhile p = l := by
  induction l with
  | nil => rfl
  | cons a l ih => rw [List.takeWhile_cons, if_pos (h a (by simp)), ih (fun x hx => h x (List.mem_cons_of_mem _ hx))]
theorem takeWhile_cut {α : Type} (p : α → Bool) (l : List α) (a : α) (r : List α) (h : ∀ x ∈ l, p x = true) (ha : p a = false) : (l ++ a :: r).takeWhile p = l := by
  induction l with
  | nil => simp [ha]
  | cons b l ih => rw [List.cons_append, List.takeWhile_cons, if_pos (h b (by simp)), ih (fun x hx => h x (List.mem_cons_of_mem _ hx))]
theorem gapLen_full {N : Nat} {hn : 1 ≤ (N : Int)} {has : List Bool} {x : Int} (h : ∀ p ∈ upto (placeAt x N hn) (N : Int).toNat, hasAt has p.1 = false) : gapLen N hn has x = ((upto (placeAt x N hn) (N : Int).toNat).length : Nat) := by
  rw [gapLen, takeWhile_all _ _ (fun p hp => by simp [h p hp])]
theorem gapLen_stop {N : Nat} {hn : 1 ≤ (N : Int)} {has : List Bool} {x : Int} {pre : List (PL N)} {p : PL N} (hp : pre ++ [p] <+: upto (placeAt x N hn) (N : Int).toNat) (h : ∀ p ∈ pre, hasAt has p.1 = false) (ht : hasAt has p.1 = true) : gapLen N hn has x = (pre.length : Nat) := by
  obtain ⟨r, hr⟩ := hp
  rw [gapLen, ← hr, List.append_assoc, List.singleton_append, takeWhile_cut _ _ _ _ (fun p hp => by simp [h p hp]) (by simp [ht])]
theorem markedBy_length {n : Int} (has : List Bool) (l : List (PL n)) : (markedBy has l).length = has.length := by
  induction l generalizing has with
  | nil => rfl
  | cons p l ih => exact (ih _).trans (by simp)
theorem takenOf_length {n : Int} {hn : 1 ≤ n} (has : List Bool) (l : List S52) : (takenOf n hn has l).length = has.length := by
  induction l generalizing has with
  | nil => rfl
  | cons a l ih => exact (ih _).trans (markedBy_length _ _)
/-- The loop's frame. -/
def GI (w : World) (A0 : Option Addr) (c0 : Nat) (l0 : List S52) (s g cap N : Nat) (cnt : Int) (hn : 1 ≤ (N : Int)) (has : List Bool) (a : Act) (W : World) : Prop :=
  ∃ (x : Nat) (vo : Value) (Ds : List Nat) (u10 u11 u12 u32 u33 u34 u35 u36 u37 u38 u39 u40 u41 u42 u43 u44 u45 u46 u47 u48 u49 u50 u51 u52 u53 u54 u55 u56 u57 u58 u59 u60 u61 u62 u63 u64 u65 u66 u67 u68 : Value), a = ({ tmps := #[.slice A0 l0.length c0, .int .i64 N, undef, undef, .slice none 0 0, .int .i64 0, .int .i64 0, .pointer (some ⟨s, 0, none⟩), .int .i64 cnt, vo, u10, u11, u12, .int .i64 N, .slice A0 l0.length c0, .int .i64 0, .int .i64 0, .bool false, undef, .tuple #[.slice (some ⟨g, 0, none⟩) N cap, .int .i64 cnt], .slice A0 l0.length c0, .int .i64 N, .tuple #[.slice (some ⟨g, 0, none⟩) N cap, .int .i64 cnt], .slice (some ⟨g, 0, none⟩) N cap, .int .i64 cnt, .int .i64 cnt, .bool false, undef, undef, undef, .int .i64 N, .int .i64 x, u32, u33, u34, u35, u36, u37, u38, u39, u40, u41, u42, u43, u44, u45, u46, u47, u48, u49, u50, u51, u52, u53, u54, u55, u56, u57, u58, u59, u60, u61, u62, u63, u64, u65, u66, u67, u68, undef], defers := Ds.map mark } : Act) ∧ x ≤ N ∧ GK w s g cap N has vo (gapsTo N hn has x) Ds W

set_option maxRecDepth 100000 in
set_option maxHeartbeats 2000000 in
theorem ring_Gaps.calls (k : Nat) (A0 : Option Addr) (c0 : Nat) (l0 : List S52) (a1 : Int) (r1 : List S52) (r2 : Int) (w : World) (hr0 : Kd.C k52 w A0 l0.length l0) (hc0 : l0.length ≤ c0) (h : ring_Gaps.f k l0 a1 = some (r1, r2)) :
    Calls Try.prog 28 #[.slice A0 l0.length c0, .int .i64 a1] w fun e w' => ∃ v0_ : Value, e = .returned (.tuple #[v0_, .int .i64 r2]) ∧ Kd.R k52 52 w' w.heap.size (fun _ => True) v0_ r1 ∧ Below w.heap.size w w' := by
  have HR := Lib.hid hr0
  clear hr0
  unfold ring_Gaps.f at h
  by_cases hlen : l0.length ≤ 35184372088832
  case neg => rw [if_neg hlen] at h; cases h
  rw [if_pos hlen] at h
  obtain ⟨e, hm, h2⟩ := Option.bind_eq_some_iff.1 h
  clear h
  have h := h2
  clear h2
  refine callsIn_wide.1 (callsIn_of_wp_marks (n := 9) Try.func28 rfl trivial (wpIn_wide.2 ?_) rfl)
  simp only [Try.ntmps28, List.size_toArray, List.length_cons, List.length_nil, Nat.reduceAdd, Nat.reduceSub, Array.replicate_succ, Array.replicate_zero, List.push_toArray, List.append_toArray, List.nil_append, List.cons_append]
  have HM := Lib.hid hm
  by_cases he : e = 0
  · subst he
    rw [if_pos rfl] at h
    obtain ⟨hn, hn2, hok⟩ := may_ok hlen hm
    have HOK := Lib.hid hok
    clear hok hm
    obtain ⟨N, rfl⟩ : ∃ N : Nat, a1 = N := ⟨a1.toNat, by omega⟩
    simp only [Option.some.injEq, Prod.mk.injEq] at h
    obtain ⟨h, rfl⟩ := h
    have H := Lib.hid h
    clear h
    go_wp2_with fail
    refine (ring_may.calls k _ _ _ _ _ _ HR.out hc0 HM.out).mono ?_
    rintro e W1 ⟨rfl, hb1⟩
    go_wp2_with fail
    refine (taken_calls W1 _ _ _ N (Kd.C_below HR.out hb1) hc0 hlen hn (by omega) HOK.out).mono ?_
    rintro e W2 ⟨v, rfl, hR, hb2⟩
    have hr1 : r1 = if countOf (takenOf N hn (List.replicate N false) l0) = 0 then [⟨0, N⟩] else gapsTo N hn (takenOf N hn (List.replicate N false) l0) N := by
      rw [← H.out]; unfold gapsOf; rw [dif_pos hn]; rfl
    clear H
    have hlen2 : (takenOf N hn (List.replicate N false) l0).length = N := by rw [takenOf_length, List.length_replicate]
    generalize takenOf N hn (List.replicate N false) l0 = has at *
    generalize countOf has = cnt at *
    obtain ⟨g, cap, rfl, hg1, hg2, hg3⟩ := Kd.R_form hR (by omega)
    have HR2 := Lib.hid hR
    clear hR
    by_cases hz : cnt = 0
    · subst hz
      rw [if_pos rfl] at hr1
      subst hr1
      have hbb := below_step hb1 hb2
      go_wp2_with (first | ((with_reducible refine gate_dst (N := 29) rfl ?_); refine Kd.R_lit k52 _ 52 ?hg (N := 29) ?hd (xs := ([(⟨0, N⟩ : S52)] : List (S52))) (inner := [.int .i64 0, .int .i64 N]) (ok := fun _ => True) (okp := fun _ => True) ?hr ?hp (fun _ hk => hk) trivial (Below.refl _ _) (Nat.le_refl _) (by simp) ?_; (case hd => rfl); (case hg => rfl); (case hr => first | (go_simp; done) | (go_simp; rfl)); (case hp => exact (Reps.c2 (show Kd.M k52 _ _ _ (⟨0, N⟩ : S52) [.int .i64 0, .int .i64 N] from (k52_mkM _ _ _ (⟨0, N⟩ : S52) )) (Reps.none _ _))); intro v204 w33 ho34 hb hg_ hnew_; clear hg_ hnew_))
      refine ⟨.tuple #[v204, .int .i64 0], by simp [results, Try.f28, go_sem], v204, rfl, Kd.R_lower ho34 (by rw [World.size_alloc]; exact Nat.le_succ_of_le hbb.size), below_step (hbb.alloc hbb.size _) hb⟩
    · rw [if_neg hz] at hr1
      subst hr1
      have hzb : (cnt == 0) = false := beq_eq_false_iff_ne.mpr hz
      go_wp2
      refine wp_loop (GI w A0 c0 l0 W2.heap.size g cap N cnt hn has) (fun a _ => N - (intOf (a.tmps.getD 31 undef)).toNat) ?_ ?_
      · refine ⟨0, _, [], _, _, _, _, _, _, _, _, _, _, _, _, _, _, _, _, _, _, _, _, _, _, _, _, _, _, _, _, _, _, _, _, _, _, _, _, _, _, _, _, rfl, by omega, ?_⟩
        have hbb := below_step hb1 hb2
        exact ⟨World.alloc_heap_new _ _, Kd.R_alloc (by have := Kd.R_lower HR2.out hb1.size; rw [hlen2] at this; exact this) _, Kd.R_nil _ _ _ _ _, hbb.alloc hbb.size _, Marked.nil _ _⟩
      · intro a W hI
        obtain ⟨x, vo, Ds, hI⟩ := hI
        obtain ⟨u10, hI⟩ := hI
        obtain ⟨u11, hI⟩ := hI
        obtain ⟨u12, hI⟩ := hI
        obtain ⟨u32, hI⟩ := hI
        obtain ⟨u33, hI⟩ := hI
        obtain ⟨u34, hI⟩ := hI
        obtain ⟨u35, hI⟩ := hI
        obtain ⟨u36, hI⟩ := hI
        obtain ⟨u37, hI⟩ := hI
        obtain ⟨u38, hI⟩ := hI
        obtain ⟨u39, hI⟩ := hI
        obtain ⟨u40, hI⟩ := hI
        obtain ⟨u41, hI⟩ := hI
        obtain ⟨u42, hI⟩ := hI
        obtain ⟨u43, hI⟩ := hI
        obtain ⟨u44, hI⟩ := hI
        obtain ⟨u45, hI⟩ := hI
        obtain ⟨u46, hI⟩ := hI
        obtain ⟨u47, hI⟩ := hI
        obtain ⟨u48, hI⟩ := hI
        obtain ⟨u49, hI⟩ := hI
        obtain ⟨u50, hI⟩ := hI
        obtain ⟨u51, hI⟩ := hI
        obtain ⟨u52, hI⟩ := hI
        obtain ⟨u53, hI⟩ := hI
        obtain ⟨u54, hI⟩ := hI
        obtain ⟨u55, hI⟩ := hI
        obtain ⟨u56, hI⟩ := hI
        obtain ⟨u57, hI⟩ := hI
        obtain ⟨u58, hI⟩ := hI
        obtain ⟨u59, hI⟩ := hI
        obtain ⟨u60, hI⟩ := hI
        obtain ⟨u61, hI⟩ := hI
        obtain ⟨u62, hI⟩ := hI
        obtain ⟨u63, hI⟩ := hI
        obtain ⟨u64, hI⟩ := hI
        obtain ⟨u65, hI⟩ := hI
        obtain ⟨u66, hI⟩ := hI
        obtain ⟨u67, hI⟩ := hI
        obtain ⟨u68, hI⟩ := hI
        obtain ⟨rfl, hx, hGK⟩ := hI
        clear HR2 hg1 hg2 hg3
        generalize hsW : W2.heap.size = s at *
        by_cases hlt : x < N
        · have hlt' : (x : Int) < N := by omega
          have hc0 := blk_cell hGK.1 0
          have hc1 := gk_cell hGK hlen2 x hlt
          obtain ⟨yn, hyn⟩ : ∃ yn : Nat, ((x : Int) - 1) % N = yn := ⟨(((x : Int) - 1) % N).toNat, by have := Int.emod_nonneg ((x : Int) - 1) (b := N) (by omega); omega⟩
          have hyl : yn < N := by have := Int.emod_lt_of_pos ((x : Int) - 1) (b := N) (by omega); omega
          have hc2 := gk_cell hGK hlen2 yn hyl
          have hmod := modulo_eq ((x : Int) - 1) N hn (by omega)
          rw [hyn] at hmod
          have HG := Lib.hid hGK
          clear hGK
          go_upto_region 11 with (fail)
          go_step3
          go_upto_region 11 with (fail)
          go_cut [47] from 34 to 46 (fun v47 wc => v47 = .bool (hasAt has x || !hasAt has yn) ∧ Hid (GK w s g cap N has vo (gapsTo N hn has x) Ds wc))
          case first =>
            by_cases hh : hasAt has x = true
            · rw [hh] at hc1
              go_quiet (fail)
              all_goals (go_wp2; go_meet)
              case rel => exact ⟨by rw [hh]; rfl, Lib.hid (gk_drew HG.out _)⟩
            · rw [Bool.not_eq_true] at hh
              rw [hh] at hc1
              go_quiet (first | (go_at_call 37; refine Calls.quiet_of ((ring_modulo.calls _ _ _ _ hmod).mono fun _ _ h => ⟨h.1, h.2.out⟩)))
              all_goals (go_wp2; go_meet)
              case rel => exact ⟨by rw [hh]; rfl, Lib.hid (gk_drew HG.out _)⟩
          case rest =>
            obtain ⟨rfl, hG'⟩ := hcut
            by_cases hc : (hasAt has x || !hasAt has yn) = true
            · rw [hc]
              go_wp2
              rw [Exit.noGoto_exit]
              go_wp2
              rw [show ((x : Int) + 1) = ((x + 1 : Nat) : Int) by omega]
              refine ⟨⟨x + 1, vo, Ds, _, _, _, _, _, _, _, _, _, _, _, _, _, _, _, _, _, _, _, _, _, _, _, _, _, _, _, _, _, _, _, _, _, _, _, _, _, _, _, _, rfl, by omega, ?_⟩, ?_⟩
              · rw [gapsTo, gapStep, hyn, if_pos (by simpa using hc), List.append_nil]; exact hG'.out
              · simp [intOf]; omega
            · rw [Bool.not_eq_true] at hc
              rw [hc]
              go_wp2
              go_step3
              go_wp2
              have hG3 := gk_alloc (gk_alloc (gk_alloc hG'.out (Obj.cells #[Value.int .i64 x, Value.int .i64 0] 52)) (Obj.cells #[Value.int .i64 x, Value.int .i64 N] 52)) (Obj.cells #[Value.int .i64 N] 3)
              have hbG : (((wc.alloc (Obj.cells #[Value.int .i64 x, Value.int .i64 0] 52)).alloc (Obj.cells #[Value.int .i64 x, Value.int .i64 N] 52)).alloc (Obj.cells #[Value.int .i64 N] 3)).heap[wc.heap.size]? = some (Obj.cells #[Value.int .i64 x, Value.int .i64 0] 52) :=
                ((Below.heap_alloc _ _ _ (by simp; omega)).trans (Below.heap_alloc _ _ _ (by simp))).trans (World.alloc_heap_new wc _)
              have hbA : (((wc.alloc (Obj.cells #[Value.int .i64 x, Value.int .i64 0] 52)).alloc (Obj.cells #[Value.int .i64 x, Value.int .i64 N] 52)).alloc (Obj.cells #[Value.int .i64 N] 3)).heap[wc.heap.size + 1]? = some (Obj.cells #[Value.int .i64 x, Value.int .i64 N] 52) := by
                refine (Below.heap_alloc _ _ _ (by simp)).trans ?_
                have := World.alloc_heap_new (wc.alloc (Obj.cells #[Value.int .i64 x, Value.int .i64 0] 52)) (Obj.cells #[Value.int .i64 x, Value.int .i64 N] 52); rwa [World.size_alloc] at this
              have hbN : (((wc.alloc (Obj.cells #[Value.int .i64 x, Value.int .i64 0] 52)).alloc (Obj.cells #[Value.int .i64 x, Value.int .i64 N] 52)).alloc (Obj.cells #[Value.int .i64 N] 3)).heap[wc.heap.size + 1 + 1]? = some (Obj.cells #[Value.int .i64 N] 3) := by
                have := World.alloc_heap_new ((wc.alloc (Obj.cells #[Value.int .i64 x, Value.int .i64 0] 52)).alloc (Obj.cells #[Value.int .i64 x, Value.int .i64 N] 52)) (Obj.cells #[Value.int .i64 N] 3); rwa [World.size_alloc, World.size_alloc] at this
              have hnG : some wc.heap.size ≠ vo.ownBlock := Kd.R_ne_new hG'.out.2.2.1 0
              have hgG : g ≠ wc.heap.size := fun e => Kd.R_ne_new hG'.out.2.1 0 (by rw [← e]; rfl)
              have hsG : s ≠ wc.heap.size := Nat.ne_of_lt (blk_lt hG'.out.1)
              have hwG : w.heap.size ≤ wc.heap.size := hG'.out.2.2.2.1.size
              have hsz3 : wc.heap.size + 1 + 1 < (((wc.alloc (Obj.cells #[Value.int .i64 x, Value.int .i64 0] 52)).alloc (Obj.cells #[Value.int .i64 x, Value.int .i64 N] 52)).alloc (Obj.cells #[Value.int .i64 N] 3)).heap.size := by simp
              obtain ⟨W3, hW3⟩ : ∃ W3, ((wc.alloc (Obj.cells #[Value.int .i64 x, Value.int .i64 0] 52)).alloc (Obj.cells #[Value.int .i64 x, Value.int .i64 N] 52)).alloc (Obj.cells #[Value.int .i64 N] 3) = W3 := ⟨_, rfl⟩
              rw [hW3] at hG3 hbG hbA hbN hsz3 ⊢
              clear hW3 hG'
              generalize wc.heap.size = G at *
              have hcA0 := blk_cell hbA 0
              have hcA1 := blk_cell hbA 1
              have hcN := blk_cell hbN 0
              have hDs3 : ∀ D ∈ Ds, D < W3.heap.size := fun D hD => blk_lt (hG3.2.2.2.2.2 D hD).2
              have hw3 : w.heap.size ≤ W3.heap.size := hG3.2.2.2.1.size
              refine wpIn_wide.1 (wpIn_rangeFunc_ownF (F := Fence.wide) (n := 9) rfl (by omega) (gf := 45) rfl trivial (fun args w => rfl) (places_stops Fence.wide (9 - 1) trivial rfl (by omega) (G + 1) (G + 1 + 1) x N N hn (by omega) (by omega) hlt' (by omega) (by omega) W3 hcA0 hcA1 hcN) Keep2.trans (Keep2.put (by omega) (by omega)) (Below.refl _ _) (fun _ => rfl)
                (GIn w s g cap N has vo (gapsTo N hn has x) Ds G x) (GEx w s g cap N has vo (gapsTo N hn has x) Ds G x) (gin_own hw3 hDs3) (gex_own hw3 hDs3) ⟨hG3, hbG, fun p hp => by simp at hp⟩
                (fun y => { tmps := #[.slice A0 l0.length c0, .int .i64 N, undef, undef, .slice none 0 0, .int .i64 0, .int .i64 0, .pointer (some ⟨s, 0, none⟩), .int .i64 cnt, vo, .int .i64 x, .pointer (some ⟨G, 0, none⟩), .int .i64 y.1, .int .i64 N, .slice A0 l0.length c0, .int .i64 0, .int .i64 0, .bool false, undef, .tuple #[.slice (some ⟨g, 0, none⟩) N cap, .int .i64 cnt], .slice A0 l0.length c0, .int .i64 N, .tuple #[.slice (some ⟨g, 0, none⟩) N cap, .int .i64 cnt], .slice (some ⟨g, 0, none⟩) N cap, .int .i64 cnt, .int .i64 cnt, .bool false, undef, undef, undef, .int .i64 N, .int .i64 x, .bool true, .int .i64 x, u34, u35, u36, u37, u38, u39, u40, u41, u42, u43, u44, u45, u46, .bool false, .int .i64 x, .agg #[.int .i64 x, .int .i64 0], .int .i64 x, .int .i64 N, .agg #[.int .i64 x, .int .i64 N], .int .i64 N, .func (.func 45) #[] #[.pointer (some ⟨G + 1, 0, none⟩), .pointer (some ⟨G + 1 + 1, 0, none⟩)], .int .i64 y.1, u56, u57, u58, u59, u60, u61, u62, u63, u64, u65, u66, u67, u68, undef], defers := [] }) ?hassign ?hbody ?hdone ?hstop)
              case hassign =>
                intro l y W K hK
                gi_wp2
                exact hK
              case hbody =>
                rintro l pre y W4 ⟨hG4, hb4, hp4⟩ hpl
                have hy0 := y.2.1
                have hy1 := y.2.2
                obtain ⟨p, hp⟩ : ∃ p : Nat, y.1 = p := ⟨y.1.toNat, by omega⟩
                have hc3 := blk_cell hG4.1 0
                have hc2 := gk_cell hG4 hlen2 p (by omega)
                have hcg := blk_cell hb4 1
                have hfg := blk_frozen hb4 1
                rw [hp]
                by_cases hb : hasAt has p = true
                · rw [hb] at hc2
                  gi_wp2
                  exact ⟨KeepsOthers.refl _, rfl, hG4, pre, y, rfl, by rw [hp]; exact hb, hp4, hb4⟩
                · rw [Bool.not_eq_true] at hb
                  rw [hb] at hc2
                  gi_wp2
                  refine ⟨KeepsOthers.setCell _ _ _, ⟨Below.heap_setCell _ _ _ _ (by simp), Below.heap_setCell _ _ _ _ (by simp; omega)⟩, gk_put hG4 hsG hgG hnG hwG 1 _, ?_, fun q hq => ?_⟩
                  · have := blk_set hb4 1 (.int .i64 ((pre.length : Int) + 1))
                    simpa using this
                  · rcases List.mem_append.1 hq with h | h
                    · exact hp4 q h
                    · rw [List.mem_singleton.1 h, hp]; exact hb
              case hdone =>
                rintro D xs W5 hD rfl ⟨hG5, hb5, hp5⟩ hK
                have hmm0 := gapLen_full hp5
                generalize hmm : (((upto (placeAt x N hn) (N : Int).toNat).length : Nat) : Int) = mg at hb5
                have hcx := blk_cell hb5 0
                have hcm := blk_cell hb5 1
                have hGD := gk_mark hG5 (fun h => by have := hDs3 D h; omega) (by omega) hK
                have hgl := gapsTo_len (n := N) (hn := hn) (has := has) x
                clear hK hG5
                go_wp2_with (first | ((with_reducible refine gate_builtin (b := .append) (xs := #[.tmp 64, .tmp 66]) rfl ?_); at_builtin; refine Kd.R_append k52 (w0 := w) w.heap.size rfl (.tmp 64) (.tmp 66) 49 52 (.agg #[(.int .i64 0), (.int .i64 0)]) 16 rfl Try.underlying49 info52 rfl (by decide) (by omega) vo (gapsTo N hn has x) (⟨x, mg⟩ : S52) [.int .i64 x, .int .i64 mg] (fun _ => True) (fun _ => False) rfl rfl ?aP (fun _ hk => hk.elim) ?aF ?aO ?aB ?aS ?aL ?_; (case aP => exact k52_mkM _ _ _ (⟨x, mg⟩ : S52)); (case aB => exact hGD.2.2.2.1); (case aF => exact (fun _ _ => trivial)); (case aO => exact hGD.2.2.1); (case aS => exact hGD.2.2.2.1.size); (case aL => omega); intro v215 w32 ho hb hg hat; have hG6 := gk_app hGD hg ho hb; clear ho hb hg hat))
                rw [Exit.noGoto_normal]
                go_wp2
                rw [show ((x : Int) + 1) = ((x + 1 : Nat) : Int) by omega]
                refine ⟨⟨x + 1, _, D :: Ds, _, _, _, _, _, _, _, _, _, _, _, _, _, _, _, _, _, _, _, _, _, _, _, _, _, _, _, _, _, _, _, _, _, _, _, _, _, _, _, _, rfl, by omega, ?_⟩, ?_⟩
                · rw [gapsTo, gapStep, hyn, if_neg (by simpa using hc), hmm0, hmm]; exact hG6
                · simp [intOf]; omega
              case hstop =>
                rintro D c pre W5 hD hpre ⟨rfl, hG5, pre', p, rfl, hp1, hp2, hb5⟩ hK
                have hmm0 := gapLen_stop hpre hp2 hp1
                generalize hmm : ((pre'.length : Nat) : Int) = mg at hb5
                refine wpIn_wide.2 ?_
                have hcx := blk_cell hb5 0
                have hcm := blk_cell hb5 1
                have hGD := gk_mark hG5 (fun h => by have := hDs3 D h; omega) (by omega) hK
                have hgl := gapsTo_len (n := N) (hn := hn) (has := has) x
                clear hK hG5
                go_wp2_with (first | ((with_reducible refine gate_builtin (b := .append) (xs := #[.tmp 64, .tmp 66]) rfl ?_); at_builtin; refine Kd.R_append k52 (w0 := w) w.heap.size rfl (.tmp 64) (.tmp 66) 49 52 (.agg #[(.int .i64 0), (.int .i64 0)]) 16 rfl Try.underlying49 info52 rfl (by decide) (by omega) vo (gapsTo N hn has x) (⟨x, mg⟩ : S52) [.int .i64 x, .int .i64 mg] (fun _ => True) (fun _ => False) rfl rfl ?aP (fun _ hk => hk.elim) ?aF ?aO ?aB ?aS ?aL ?_; (case aP => exact k52_mkM _ _ _ (⟨x, mg⟩ : S52)); (case aB => exact hGD.2.2.2.1); (case aF => exact (fun _ _ => trivial)); (case aO => exact hGD.2.2.1); (case aS => exact hGD.2.2.2.1.size); (case aL => omega); intro v215 w32 ho hb hg hat; have hG6 := gk_app hGD hg ho hb; clear ho hb hg hat))
                rw [Exit.noGoto_normal]
                go_wp2
                rw [show ((x : Int) + 1) = ((x + 1 : Nat) : Int) by omega]
                refine ⟨⟨x + 1, _, D :: Ds, _, _, _, _, _, _, _, _, _, _, _, _, _, _, _, _, _, _, _, _, _, _, _, _, _, _, _, _, _, _, _, _, _, _, _, _, _, _, _, _, rfl, by omega, ?_⟩, ?_⟩
                · rw [gapsTo, gapStep, hyn, if_neg (by simpa using hc), hmm0, hmm]; exact hG6
                · simp [intOf]; omega
        · have hxe : x = N := by omega
          subst hxe
          go_wp2
          refine leaves_marked Ds _ hGK.2.2.2.2 (fun W' hW' => ?_)
          refine ⟨.tuple #[vo, .int .i64 0], by simp [results, Try.f28, go_sem], vo, rfl, R_cells hGK.2.2.1 (fun k cs t fr h => hW'.2 k cs t fr h), hGK.2.2.2.1.trans hW'.1⟩
  · rw [if_neg he] at h
    simp only [Option.some.injEq, Prod.mk.injEq] at h
    obtain ⟨rfl, rfl⟩ := h
    have hzb : (e != 0) = true := bne_iff_ne.mpr he
    clear hm
    go_wp2_with fail
    refine (ring_may.calls k _ _ _ _ _ _ HR.out hc0 HM.out).mono ?_
    rintro e' W1 ⟨rfl, hb1⟩
    go_wp2
    refine ⟨.tuple #[.slice none 0 0, .int .i64 e], by simp [results, Try.f28, go_sem], _, rfl, Kd.R_nil _ _ _ _ _, hb1⟩
end Go.Proofs.Ythnpacnmghlkmaa
