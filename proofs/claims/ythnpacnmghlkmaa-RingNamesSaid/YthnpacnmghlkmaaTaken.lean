/- What 'taken' answers: of each place whether it is in one of some arcs, and how many are. -/
import Derived.Test.YthnpacnmghlkmaaIter
import Derived.Test.YthnpacnmghlkmaaPx0
namespace Go.Proofs.Ythnpacnmghlkmaa
open Go.RowKit Go.Shelf Go.Proofs.Ythnpacnmghlkmaa.Px Go.Proofs.YthnpacnmghlkmaaW.PrintWords Go.Proofs.YthnpacnmghlkmaaW.PrintLast
attribute [local go_sem] Oper.semAt_some

theorem info4 : (Try.prog.info? 4).map (fun i => (i.zero, i.size, i.bytes)) = some (some (.bool false), 1, 1) := by kernel_rfl
/-! The marks of ranges over functions that a frame bears. -/
def mark (D : Nat) : Deferred := { target := .collected D, args := #[] }
/-- Each mark's block is there, beyond B, and no two are one. -/
def Marked (B : Nat) (Ds : List Nat) (W : World) : Prop := Ds.Nodup ∧ ∀ D ∈ Ds, B ≤ D ∧ W.heap[D]? = some (.deferred (some []))
theorem Marked.nil (B : Nat) (W : World) : Marked B [] W := ⟨List.nodup_nil, fun D h => by simp at h⟩
/-- What was cells lies as it lay, and nothing below B has turned. -/
def Kept0 (B : Nat) (W W' : World) : Prop := Below B W W' ∧ ∀ (k : Nat) (cs : Array Value) (t : TypeId) (fr : Nat × Nat), W.heap[k]? = some (Obj.cells cs t fr) → W'.heap[k]? = some (Obj.cells cs t fr)
theorem leaves_marked {F : Fence} {n : Nat} {P : Program} {fn : Func} {tmps : Array Value} {R : Ending → World → Prop} {B : Nat} (Ds : List Nat) : ∀ (W : World), Marked B Ds W → (∀ W', Kept0 B W W' → LeavesIn F n P fn tmps R [] .returning W') → LeavesInM F n P fn tmps R (Ds.map mark) .returning W := by
  induction Ds with
  | nil => exact fun W _ h => h W ⟨Below.refl _ _, fun _ _ _ _ h => h⟩
  | cons D Ds ih =>
    intro W hm h
    obtain ⟨hn, ha⟩ := hm
    obtain ⟨hD, hk⟩ := ha D (by simp)
    have hlt := (Array.getElem?_eq_some_iff.1 hk).1
    have hm2 : Marked B Ds (W.putObj D (.deferred none)) := by
      refine ⟨(List.nodup_cons.1 hn).2, fun D' h' => ?_⟩
      obtain ⟨h1, h2⟩ := ha D' (List.mem_cons_of_mem _ h')
      refine ⟨h1, ((grownBy_putObj' W D (.deferred none)).block D' (Array.getElem?_eq_some_iff.1 h2).1 (fun e => ?_)).trans h2⟩
      cases e
      exact (List.nodup_cons.1 hn).1 h'
    refine ⟨by simp, .inl ⟨D, _, rfl, run_takeDeferred hk, ih _ hm2 (fun W' hW' => h W' ⟨?_, ?_⟩)⟩⟩
    · exact ((Below.refl B W).grown (grownBy_putObj' W D (.deferred none)) (by omega) (fun k e => by cases e; exact hD)).trans hW'.1
    · intro k cs t fr hc
      refine hW'.2 k cs t fr (((grownBy_putObj' W D (.deferred none)).block k (Array.getElem?_eq_some_iff.1 hc).1 (fun e => ?_)).trans hc)
      cases e
      rw [hk] at hc; cases hc

/-! What the loops keep. -/
def markedBy {n : Int} (has : List Bool) (pre : List (PL n)) : List Bool := pre.foldl (fun h p => h.set p.1.toNat true) has
theorem markedBy_snoc {n : Int} (has : List Bool) (pre : List (PL n)) (x : PL n) : markedBy has (pre ++ [x]) = (markedBy has pre).set x.1.toNat true := by simp [markedBy]
def takenOf (n : Int) (hn : 1 ≤ n) (has : List Bool) : List S52 → List Bool
  | [] => has
  | a :: l => takenOf n hn (markedBy has (upto (placeAt a.f0 n hn) a.f1.toNat)) l
theorem takenOf_snoc (n : Int) (hn : 1 ≤ n) (a : S52) (l : List S52) : ∀ has, takenOf n hn has (l ++ [a]) = markedBy (takenOf n hn has l) (upto (placeAt a.f0 n hn) a.f1.toNat) := by
  induction l with
  | nil => intro has; rfl
  | cons b l ih => intro has; exact ih _
theorem take_rd {l : List S52} {x : Int} (h0 : 0 ≤ x) (h1 : x < l.length) : l.take (x + 1).toNat = l.take x.toNat ++ [rd_T52 l x] := by
  obtain ⟨m, rfl⟩ : ∃ m : Nat, x = m := ⟨x.toNat, by omega⟩
  have hm : m < l.length := by omega
  rw [show ((m : Int) + 1).toNat = m + 1 by omega, show (m : Int).toNat = m by omega, List.take_add_one, rd_T52, show (m : Int).toNat = m by omega]
  simp [List.getD, hm]
def countOf (has : List Bool) : Int := ((has.filter id).length : Nat)
def boolRow (has : List Bool) : Array Value := (has.map Value.bool).toArray
/-- The row of bools, its slice's box, and the count's box. -/
def TRow (B : Nat) (N : Nat) (has : List Bool) (W : World) : Prop :=
  has.length = N ∧ W.heap[B]? = some (.cells (boolRow has) 4 (0, 0)) ∧ W.heap[B + 1]? = some (.cells #[.slice (some ⟨B, 0, none⟩) N N] 67 (0, 0)) ∧ W.heap[B + 1 + 1]? = some (.cells #[.int .i64 (countOf has)] 3 (0, 0))
theorem countOf_set (has : List Bool) (p : Nat) (hp : p < has.length) (h : has[p] = false) : countOf (has.set p true) = countOf has + 1 := by
  unfold countOf
  induction has generalizing p with
  | nil => simp at hp
  | cons b l ih =>
    cases p with
    | zero => simp at h; subst h; simp
    | succ p =>
      have := ih p (by simpa using hp) (by simpa using h)
      cases b <;> simp at this ⊢ <;> omega
theorem countOf_le (has : List Bool) : 0 ≤ countOf has ∧ countOf has ≤ has.length := by
  unfold countOf
  have := List.length_filter_le id has
  omega
theorem set_same (has : List Bool) (p : Nat) (hp : p < has.length) (h : has[p] = true) : has.set p true = has := by
  apply List.ext_getElem
  · simp
  · intro i h1 h2
    rw [List.getElem_set]
    split
    · rename_i e; subst e; exact h.symm
    · rfl
theorem rd_mem {l : List S52} {x : Int} (h0 : 0 ≤ x) (h1 : x < l.length) : rd_T52 l x ∈ l := by
  have hm : x.toNat < l.length := by omega
  simp [rd_T52, List.getD, hm]
/-- What a range's rounds keep. -/
def TIn (s : Nat) (w : World) (N : Nat) (has0 : List Bool) (Ds : List Nat) (pre : List (PL N)) (W : World) : Prop :=
  TRow s N (markedBy has0 pre) W ∧ Below s w W ∧ Marked s Ds W
theorem tin_own {s : Nat} {w : World} {N : Nat} {has0 : List Bool} {Ds : List Nat} {B : Nat} (hs : s ≤ w.heap.size) (hB : s ≤ B) (hDs : ∀ D ∈ Ds, D < B) : OwnFrom B (TIn s w N has0 Ds) := by
  intro pre X Y row ⟨⟨h1, h2, h3, h4⟩, hb, hm⟩ hg hr
  have hcell : ∀ (g : Nat) (cs : Array Value) (t : TypeId) (fr : Nat × Nat), X.heap[g]? = some (Obj.cells cs t fr) → Y.heap[g]? = some (Obj.cells cs t fr) := fun g cs t fr h =>
    (hg.block g (Array.getElem?_eq_some_iff.1 h).1 (fun e' => by obtain ⟨_, o, ho, hc⟩ := hr g e'.symm; rw [h] at ho; cases ho; cases hc)).trans h
  refine ⟨⟨h1, hcell _ _ _ _ h2, hcell _ _ _ _ h3, hcell _ _ _ _ h4⟩, hb.grown hg (Nat.le_trans hs hb.size) (fun k e => by obtain ⟨h, _⟩ := hr k e; omega), hm.1, fun D hD => ?_⟩
  obtain ⟨g1, g2⟩ := hm.2 D hD
  refine ⟨g1, (hg.block D (Array.getElem?_eq_some_iff.1 g2).1 (fun e => ?_)).trans g2⟩
  obtain ⟨h, _⟩ := hr D e.symm
  have := hDs D hD
  omega
theorem boolRow_get (has : List Bool) (p : Nat) : (boolRow has)[p]? = (has[p]?).map Value.bool := by simp [boolRow]
theorem boolRow_set (has : List Bool) (p : Nat) : (boolRow has).setIfInBounds p (.bool true) = boolRow (has.set p true) := by
  simp [boolRow, List.map_set]
def ArcOk (n : Int) (a : S52) : Prop := 0 ≤ a.f0 ∧ a.f0 < n ∧ 0 ≤ a.f1 ∧ a.f1 ≤ n

def TI (w : World) (A0 : Option Addr) (c0 : Nat) (l0 : List S52) (N : Nat) (hN : 1 ≤ (N : Int)) (a : Act) (W : World) : Prop :=
  ∃ (B : Nat) (x : Int) (Ds : List Nat) (u8 u9 u10 u16 u17 u18 u19 u20 u21 u22 u23 u24 u25 u26 u27 u28 u29 u30 u31 u32 u33 : Value), a = ({ tmps := #[Value.slice A0 l0.length c0, .int .i64 N, undef, undef, .slice none 0 0, .int .i64 0, .pointer (some ⟨B + 1, 0, none⟩), .pointer (some ⟨B + 1 + 1, 0, none⟩), u8, u9, u10, .int .i64 N, .slice (some ⟨B, 0, none⟩) N N, .slice A0 l0.length c0, .int .i64 l0.length, .int .i64 x, u16, u17, u18, u19, u20, u21, u22, u23, u24, u25, u26, u27, u28, u29, u30, u31, u32, u33, undef, undef], defers := Ds.map mark } : Act) ∧ B = w.heap.size ∧ 0 ≤ x ∧ x ≤ (l0.length : Int) ∧ TRow B N (takenOf N hN (List.replicate N false) (l0.take x.toNat)) W ∧ Below w.heap.size w W ∧ Marked w.heap.size Ds W

set_option maxRecDepth 100000 in
set_option maxHeartbeats 2000000 in
theorem taken_calls (w : World) (A0 : Option Addr) (c0 : Nat) (l0 : List S52) (N : Nat) (hr0 : Kd.C k52 w A0 l0.length l0) (_hc0 : l0.length ≤ c0) (hlen : l0.length ≤ 35184372088832) (hN : 1 ≤ (N : Int)) (hN2 : N ≤ 1048576) (hok : ∀ a ∈ l0, ArcOk N a) :
    Calls Try.prog 42 #[.slice A0 l0.length c0, .int .i64 N] w fun e w' => ∃ v0_ : Value, e = .returned (.tuple #[v0_, .int .i64 (countOf (takenOf N hN (List.replicate N false) l0))]) ∧ Kd.R Kd.bool 4 w' w.heap.size (fun _ => True) v0_ (takenOf N hN (List.replicate N false) l0) ∧ Below w.heap.size w w' := by
  have HR := Lib.hid hr0
  have HOK := Lib.hid hok
  clear hr0 hok
  have hmk := fun W => run_make_row' (P := Try.prog) 67 4 (.bool false) 1 Try.underlying67 info4 rfl .i64 .i64 N (by omega) (by omega) W
  refine callsIn_wide.1 (callsIn_of_wp_marks (n := 9) Try.func42 rfl trivial (wpIn_wide.2 ?_) rfl)
  simp only [Try.ntmps42, List.size_toArray, List.length_cons, List.length_nil, Nat.reduceAdd, Nat.reduceSub, Array.replicate_succ, Array.replicate_zero, List.push_toArray, List.append_toArray, List.nil_append, List.cons_append]
  go_wp2
  refine wp_loop (TI w A0 c0 l0 N hN) (fun a _ => l0.length - (intOf (a.tmps.getD 15 undef)).toNat) ?_ ?_
  · refine ⟨w.heap.size, 0, [], _, _, _, _, _, _, _, _, _, _, _, _, _, _, _, _, _, _, _, _, _, rfl, rfl, by omega, by omega, ?_, ?_, Marked.nil _ _⟩
    · have hrow : madeCells #[.bool false] N = boolRow (List.replicate N false) := by
        apply Array.ext
        · simp [size_madeCells, boolRow]
        · intro i h1 h2
          simp [madeCells, boolRow, Nat.mod_one]
      refine ⟨by simp [takenOf], ?_, ?_, ?_⟩
      · rw [hrow]
        exact ((Below.heap_alloc _ _ _ (by simp; omega)).trans (Below.heap_alloc _ _ _ (by simp))).trans (World.alloc_heap_new w _)
      · refine (Below.heap_alloc _ _ _ (by simp)).trans ?_
        have := World.alloc_heap_new (w.alloc (Obj.cells (madeCells #[Value.bool false] N) 4)) (Obj.cells #[Value.slice (some ⟨w.heap.size, 0, none⟩) N N] 67); rwa [World.size_alloc] at this
      · have hz : countOf (takenOf N hN (List.replicate N false) (List.take (Int.toNat 0) l0)) = 0 := by simp [takenOf, countOf]
        rw [hz]
        have := World.alloc_heap_new ((w.alloc (Obj.cells (madeCells #[Value.bool false] N) 4)).alloc (Obj.cells #[Value.slice (some ⟨w.heap.size, 0, none⟩) N N] 67)) (Obj.cells #[Value.int .i64 0] 3); rwa [World.size_alloc, World.size_alloc] at this
    · exact (((Below.refl _ _).alloc (Nat.le_refl _) _).alloc (by simp) _).alloc (by simp; omega) _
  · intro a W hI
    obtain ⟨B, x, Ds, hI⟩ := hI
    obtain ⟨u8, hI⟩ := hI
    obtain ⟨u9, hI⟩ := hI
    obtain ⟨u10, hI⟩ := hI
    obtain ⟨u16, hI⟩ := hI
    obtain ⟨u17, hI⟩ := hI
    obtain ⟨u18, hI⟩ := hI
    obtain ⟨u19, hI⟩ := hI
    obtain ⟨u20, hI⟩ := hI
    obtain ⟨u21, hI⟩ := hI
    obtain ⟨u22, hI⟩ := hI
    obtain ⟨u23, hI⟩ := hI
    obtain ⟨u24, hI⟩ := hI
    obtain ⟨u25, hI⟩ := hI
    obtain ⟨u26, hI⟩ := hI
    obtain ⟨u27, hI⟩ := hI
    obtain ⟨u28, hI⟩ := hI
    obtain ⟨u29, hI⟩ := hI
    obtain ⟨u30, hI⟩ := hI
    obtain ⟨u31, hI⟩ := hI
    obtain ⟨u32, hI⟩ := hI
    obtain ⟨u33, hI⟩ := hI
    obtain ⟨rfl, rfl, hx0, hx1, hT, hBel, hM⟩ := hI
    by_cases hlt : x < (l0.length : Int)
    · obtain ⟨ad, e105, hx_0, hx_1⟩ := at_T52 HR.out x hx0 hlt
      cases e105
      replace hx_0 := (hBel.cell (World.block_lt_of_cell? w _ hx_0)).trans hx_0
      replace hx_1 := (hBel.cell (World.block_lt_of_cell? w _ hx_1)).trans hx_1
      have q0 := eq_true hx0
      have q1 := eq_true hlt
      have hA := HOK.out _ (rd_mem hx0 hlt)
      go_wp2
      obtain ⟨hA0, hA1, hA2, hA3⟩ := hA
      obtain ⟨hT1, hT2, hT3, hT4⟩ := hT
      have hsz : w.heap.size + 1 + 1 < W.heap.size := blk_lt hT4
      have hW3 : ∃ W3, (((W.alloc (Obj.cells #[Value.int .i64 (rd_T52 l0 x).f0, Value.int .i64 (rd_T52 l0 x).f1] 52)).alloc (Obj.cells #[Value.int .i64 (rd_T52 l0 x).f0, Value.int .i64 (rd_T52 l0 x).f1] 52)).alloc (Obj.cells #[Value.int .i64 N] 3)) = W3 := ⟨_, rfl⟩
      have hin : TIn w.heap.size w N (takenOf N hN (List.replicate N false) (List.take x.toNat l0)) Ds [] (((W.alloc (Obj.cells #[Value.int .i64 (rd_T52 l0 x).f0, Value.int .i64 (rd_T52 l0 x).f1] 52)).alloc (Obj.cells #[Value.int .i64 (rd_T52 l0 x).f0, Value.int .i64 (rd_T52 l0 x).f1] 52)).alloc (Obj.cells #[Value.int .i64 N] 3)) := by
        refine (tin_own (B := W.heap.size) (Nat.le_refl _) hBel.size ?_).alloc _ ((tin_own (Nat.le_refl _) hBel.size ?_).alloc _ ((tin_own (Nat.le_refl _) hBel.size ?_).alloc _ ⟨⟨hT1, hT2, hT3, hT4⟩, hBel, hM⟩)) <;> exact fun D hD => blk_lt (hM.2 D hD).2
      have hbA : (((W.alloc (Obj.cells #[Value.int .i64 (rd_T52 l0 x).f0, Value.int .i64 (rd_T52 l0 x).f1] 52)).alloc (Obj.cells #[Value.int .i64 (rd_T52 l0 x).f0, Value.int .i64 (rd_T52 l0 x).f1] 52)).alloc (Obj.cells #[Value.int .i64 N] 3)).heap[W.heap.size + 1]? = some (Obj.cells #[Value.int .i64 (rd_T52 l0 x).f0, Value.int .i64 (rd_T52 l0 x).f1] 52) := by
        refine (Below.heap_alloc _ _ _ (by simp)).trans ?_
        have := World.alloc_heap_new (W.alloc (Obj.cells #[Value.int .i64 (rd_T52 l0 x).f0, Value.int .i64 (rd_T52 l0 x).f1] 52)) (Obj.cells #[Value.int .i64 (rd_T52 l0 x).f0, Value.int .i64 (rd_T52 l0 x).f1] 52); rwa [World.size_alloc] at this
      have hbN : (((W.alloc (Obj.cells #[Value.int .i64 (rd_T52 l0 x).f0, Value.int .i64 (rd_T52 l0 x).f1] 52)).alloc (Obj.cells #[Value.int .i64 (rd_T52 l0 x).f0, Value.int .i64 (rd_T52 l0 x).f1] 52)).alloc (Obj.cells #[Value.int .i64 N] 3)).heap[W.heap.size + 1 + 1]? = some (Obj.cells #[Value.int .i64 N] 3) := by
        have := World.alloc_heap_new ((W.alloc (Obj.cells #[Value.int .i64 (rd_T52 l0 x).f0, Value.int .i64 (rd_T52 l0 x).f1] 52)).alloc (Obj.cells #[Value.int .i64 (rd_T52 l0 x).f0, Value.int .i64 (rd_T52 l0 x).f1] 52)) (Obj.cells #[Value.int .i64 N] 3); rwa [World.size_alloc, World.size_alloc] at this
      have hsz3 : W.heap.size + 1 + 1 < (((W.alloc (Obj.cells #[Value.int .i64 (rd_T52 l0 x).f0, Value.int .i64 (rd_T52 l0 x).f1] 52)).alloc (Obj.cells #[Value.int .i64 (rd_T52 l0 x).f0, Value.int .i64 (rd_T52 l0 x).f1] 52)).alloc (Obj.cells #[Value.int .i64 N] 3)).heap.size := by simp
      obtain ⟨W3, hW3⟩ := hW3
      rw [hW3] at hin hbA hbN hsz3 ⊢
      clear hW3
      have hcA0 := blk_cell hbA 0
      have hcA1 := blk_cell hbA 1
      have hcN := blk_cell hbN 0
      refine wpIn_wide.1 (wpIn_rangeFunc_ownF (F := Fence.wide) (n := 9) rfl (by omega) (gf := 45) rfl trivial (fun args w => rfl) (places_stops Fence.wide (9 - 1) trivial rfl (by omega) (W.heap.size + 1) (W.heap.size + 1 + 1) (rd_T52 l0 x).f0 (rd_T52 l0 x).f1 N hN (by omega) hA0 hA1 hA2 hA3 W3 hcA0 hcA1 hcN) Keep2.trans (Keep2.put (by omega) (by omega)) (Below.refl _ _) (fun _ => rfl) (TIn w.heap.size w N (takenOf N hN (List.replicate N false) (List.take x.toNat l0)) Ds) (fun _ _ _ => False) (tin_own (Nat.le_refl _) hin.2.1.size (fun D hD => blk_lt (hin.2.2.2 D hD).2)) (fun c => fun _ _ _ _ h _ _ => h) hin 
        (fun y => { tmps := #[.slice (some ad) l0.length c0, .int .i64 N, undef, undef, .slice none 0 0, .int .i64 0, .pointer (some ⟨w.heap.size + 1, 0, none⟩), .pointer (some ⟨w.heap.size + 1 + 1, 0, none⟩), u8, .pointer (some ⟨W.heap.size, 0, none⟩), .int .i64 y.1, .int .i64 N, .slice (some ⟨w.heap.size, 0, none⟩) N N, .slice (some ad) l0.length c0, .int .i64 l0.length, .int .i64 x, .bool true, .pointer (some (ad.add (x.toNat * 2))), .agg #[.int .i64 (rd_T52 l0 x).f0, .int .i64 (rd_T52 l0 x).f1], .agg #[.int .i64 (rd_T52 l0 x).f0, .int .i64 (rd_T52 l0 x).f1], .int .i64 N, .func (.func 45) #[] #[.pointer (some ⟨W.heap.size + 1, 0, none⟩), .pointer (some ⟨W.heap.size + 1 + 1, 0, none⟩)], .int .i64 y.1, u23, u24, u25, u26, u27, u28, u29, u30, u31, u32, u33, undef, undef], defers := [] }) ?hassign ?hbody ?hdone ?hstop)
      case hassign =>
        intro l y W K hK
        gi_wp2
        exact hK
      case hbody =>
        rintro l pre y W4 ⟨⟨hT1, hT2, hT3, hT4⟩, hBel4, hM4⟩ _
        generalize takenOf N hN (List.replicate N false) (List.take x.toNat l0) = has0 at *
        have hy0 := y.2.1
        have hy1 := y.2.2
        obtain ⟨p, hp⟩ : ∃ p : Nat, y.1 = p := ⟨y.1.toNat, by omega⟩
        have hpN : p < N := by omega
        have hc3 := blk_cell hT3 0
        have hc4 := blk_cell hT4 0
        have hf4 := blk_frozen hT4 0
        have hf2 := blk_frozen hT2 p
        have hcy := countOf_le (markedBy has0 pre)
        rw [hp]
        have hlp : p < (markedBy has0 pre).length := by omega
        by_cases hb : (markedBy has0 pre)[p] = true
        · have hc2 : W4.cell? ⟨w.heap.size, p, none⟩ = some (.bool true) := by
            rw [blk_cell hT2 p, boolRow_get, List.getElem?_eq_getElem hlp, hb]; rfl
          gi_wp2
          have hset : markedBy has0 (pre ++ [y]) = markedBy has0 pre := by
            rw [markedBy_snoc, hp]; exact set_same _ _ hlp hb
          exact ⟨KeepsOthers.refl _, Keep2.refl _ _ _, by rw [TIn, hset]; exact ⟨⟨hT1, hT2, hT3, hT4⟩, hBel4, hM4⟩⟩
        · have hb' : (markedBy has0 pre)[p] = false := by simpa using hb
          have hc2 : W4.cell? ⟨w.heap.size, p, none⟩ = some (.bool false) := by
            rw [blk_cell hT2 p, boolRow_get, List.getElem?_eq_getElem hlp, hb']; rfl
          have hset : markedBy has0 (pre ++ [y]) = (markedBy has0 pre).set p true := by rw [markedBy_snoc, hp]; rfl
          have hct := countOf_set _ p hlp hb'
          have hc4' := blk_cell (blk_far hT4 (p := ⟨w.heap.size, p, none⟩) (by simp; omega) (.bool true)) 0
          have hf4' := blk_frozen (blk_far hT4 (p := ⟨w.heap.size, p, none⟩) (by simp; omega) (.bool true)) 0
          have hlit : (markedBy has0 pre).length ≤ 1048576 := by omega
          generalize hcn : countOf (markedBy has0 pre) = cnt at *
          gi_wp2
          have hs0 := blk_lt hT4
          refine ⟨(KeepsOthers.setCell _ _ _).trans (KeepsOthers.setCell _ _ _), ⟨?_, ?_⟩, ⟨⟨?_, ?_, ?_, ?_⟩, ?_, hM4.1, fun D hD => ?_⟩⟩
          · exact (Below.heap_setCell _ _ _ _ (by simp; omega)).trans (Below.heap_setCell _ _ _ _ (by simp; omega))
          · exact (Below.heap_setCell _ _ _ _ (by simp; omega)).trans (Below.heap_setCell _ _ _ _ (by simp; omega))
          · rw [hset, List.length_set]; exact hT1
          · rw [hset, ← boolRow_set]
            exact blk_far (blk_set hT2 p (.bool true)) (p := ⟨w.heap.size + 1 + 1, 0, none⟩) (by simp; omega) _
          · exact blk_far (blk_far hT3 (p := ⟨w.heap.size, p, none⟩) (by simp) _) (p := ⟨w.heap.size + 1 + 1, 0, none⟩) (by simp) _
          · rw [hset, hct]
            exact blk_set (blk_far hT4 (p := ⟨w.heap.size, p, none⟩) (by simp; omega) (.bool true)) 0 _
          · exact below_set (below_set hBel4 (Nat.le_refl _)) (by omega)
          · obtain ⟨g1, g2⟩ := hM4.2 D hD
            exact ⟨g1, ((KeepsOthers.setCell W4 _ _).trans (KeepsOthers.setCell _ _ _)).same D _ g2 rfl⟩
      case hdone =>
        rintro D xs W5 hD rfl ⟨hT5, hBel5, hM5⟩ hK
        have hD0 : w.heap.size ≤ D := Nat.le_trans hin.2.1.size hD
        have hnin : D ∉ Ds := fun h => by
          have := blk_lt (hin.2.2.2 D h).2
          omega
        go_wp2
        refine ⟨⟨w.heap.size, x + 1, D :: Ds, _, _, _, _, _, _, _, _, _, _, _, _, _, _, _, _, _, _, _, _, _, rfl, rfl, by omega, by omega, ?_, hBel5, List.nodup_cons.2 ⟨hnin, hM5.1⟩, fun D' h' => ?_⟩, ?_⟩
        · rw [take_rd hx0 hlt, takenOf_snoc]; exact hT5
        · rcases List.mem_cons.1 h' with rfl | h'
          · exact ⟨hD0, hK⟩
          · exact hM5.2 D' h'
        · simp [intOf]; omega
      case hstop =>
        rintro D c pre W5 _ _ h _
        exact h.elim
    · have hxe : x = (l0.length : Int) := by omega
      subst hxe
      rw [show l0.take (l0.length : Int).toNat = l0 by simp] at hT
      obtain ⟨hT1, hT2, hT3, hT4⟩ := hT
      have hc3 := blk_cell hT3 0
      have hc4 := blk_cell hT4 0
      go_wp2
      go_quiet (fail)
      go_wp2
      refine leaves_marked Ds _ hM (fun W' hW' => ?_)
      have hk2 := hW'.2 _ _ _ _ hT2
      have hk3 := hW'.2 _ _ _ _ hT3
      have hk4 := hW'.2 _ _ _ _ hT4
      have hb' := (pw_below_drewN hBel nq).trans hW'.1
      generalize takenOf N hN (List.replicate N false) l0 = res at *
      refine ⟨.tuple #[.slice (some ⟨w.heap.size, 0, none⟩) N N, .int .i64 (countOf res)], by simp [results, Try.f42, go_sem], _, rfl, Kd.R_of_own (enc := Value.bool) ⟨by simp [encs], .inr ⟨w.heap.size, N, _, by rw [hT1], Nat.le_refl _, hk2, by omega, by simp [maxLen]; omega, by simp [boolRow, hT1], ?_⟩⟩ (fun _ _ => trivial), hb'⟩
      simp only [boolRow, encs]
      exact List.take_of_length_le (by simp [hT1])
end Go.Proofs.Ythnpacnmghlkmaa
