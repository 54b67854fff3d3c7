/- The iterator 'places': which places an arc hands out. -/
import Derived.RangeFuncNested
import Derived.RangeFuncBound
import Derived.RangeFuncCalls
import Derived.RangeFuncLeaves
import Derived.RangeFuncBox
import Derived.Shelf.Abstract
import Derived.Shelf.RegionOpen
import Derived.WalkKit
import Derived.OwnWalkIn
import Derived.TacticsInMore
import Derived.LoopNIn
import Derived.LoopIn
import Derived.Test.YthnpacnmghlkmaaPlain
import Derived.Lib.Hide
namespace Go.Proofs.Ythnpacnmghlkmaa
open Go.RowKit Go.Shelf
attribute [local go_sem] Oper.semAt_some

/-- What has come when k rounds are over. -/
def upto {α : Type} (f : Nat → α) (k : Nat) : List α := (List.range k).map f
theorem upto_succ {α : Type} (f : Nat → α) (k : Nat) : upto f (k + 1) = upto f k ++ [f k] := by simp [upto, List.range_succ]
theorem upto_length {α : Type} (f : Nat → α) (k : Nat) : (upto f k).length = k := by simp [upto]
theorem upto_prefix {α : Type} (f : Nat → α) {j k : Nat} (h : j ≤ k) : upto f j <+: upto f k := by
  obtain ⟨d, rfl⟩ : ∃ d, k = j + d := ⟨k - j, by omega⟩
  induction d with
  | zero => exact List.prefix_rfl
  | succ d ih => exact (ih (by omega)).trans (by rw [show j + (d + 1) = (j + d) + 1 by omega, upto_succ]; exact List.prefix_append _ _)

/-- A place of a ring. -/
def PL (n : Int) : Type := { x : Int // 0 ≤ x ∧ x < n }
/-- The place of round i. -/
def placeAt (from_ n : Int) (hn : 1 ≤ n) (i : Nat) : PL n := ⟨(from_ + i) % n, Int.emod_nonneg _ (by omega), Int.emod_lt_of_pos _ (by omega)⟩

/-- Two blocks lie as they lay. -/
def Keep2 (a b : Nat) (A B : World) : Prop := B.heap[a]? = A.heap[a]? ∧ B.heap[b]? = A.heap[b]?
theorem Keep2.refl (a b : Nat) (A : World) : Keep2 a b A A := ⟨rfl, rfl⟩
theorem Keep2.trans {a b : Nat} {A B C : World} (h : Keep2 a b A B) (k : Keep2 a b B C) : Keep2 a b A C := ⟨k.1.trans h.1, k.2.trans h.2⟩
theorem Keep2.cellA {a b : Nat} {A B : World} (h : Keep2 a b A B) (i : Nat) : B.cell? ⟨a, i, none⟩ = A.cell? ⟨a, i, none⟩ := World.cell?_of_block h.1
theorem Keep2.cellB {a b : Nat} {A B : World} (h : Keep2 a b A B) (i : Nat) : B.cell? ⟨b, i, none⟩ = A.cell? ⟨b, i, none⟩ := World.cell?_of_block h.2
theorem Keep2.put {a b : Nat} {w : World} (ha : a < w.heap.size) (hb : b < w.heap.size) : ∀ (W : World) (l : Nat) (o o' : Obj), w.heap.size ≤ l → W.heap[l]? = some o → o.isCells = false → o.isWalk = false → Keep2 a b W (W.putObj l o') := fun W l o o' hl h _ _ =>
  have hlt := (Array.getElem?_eq_some_iff.1 h).1
  ⟨(grownBy_putObj' W l o').block a (by omega) (by intro e; cases e; omega), (grownBy_putObj' W l o').block b (by omega) (by intro e; cases e; omega)⟩
/-- A block of cells lies as it lay where only what is no cells is turned. -/
theorem blk_own {β : Type} (g : Nat) (t : TypeId) (f : β → Array Value) : Own (fun s W => W.heap[g]? = some (.cells (f s) t (0, 0))) := fun s X Y row hs hg hrow =>
  (hg.block g (Array.getElem?_eq_some_iff.1 hs).1 (fun e' => by obtain ⟨o, ho, hc⟩ := hrow g e'.symm; rw [hs] at ho; cases ho; cases hc)).trans hs

set_option maxRecDepth 100000 in
set_option maxHeartbeats 2000000 in
theorem places1_in (F : Fence) (m : Nat) (h45 : F.fn 45) (hro : F.round = none) (hm : 1 ≤ m) (l Ba Bn : Nat) (fr ln n : Int) (hn : 1 ≤ n) (hn2 : n ≤ 1048576) (hf0 : 0 ≤ fr) (hf1 : fr < n) (hl0 : 0 ≤ ln) (hl1 : ln ≤ n)
    (J Jx : List (PL n) → World → Prop)
    (hY : ∀ pre x W, J pre W → pre.length < ln.toNat → YieldAt F (m - 1) Try.prog l #[.int .i64 x.1] W fun e W' =>
      (e = .returned (.bool true) ∧ J (pre ++ [x]) W' ∧ Keep2 Ba Bn W W') ∨ (e = .returned (.bool false) ∧ Jx (pre ++ [x]) W'))
    (W : World) (hc0 : W.cell? ⟨Ba, 0, none⟩ = some (.int .i64 fr)) (hc1 : W.cell? ⟨Ba, 1, none⟩ = some (.int .i64 ln)) (hcn : W.cell? ⟨Bn, 0, none⟩ = some (.int .i64 n)) (h0 : J [] W) :
    CallsIn F m Try.prog 45 #[.func (.yield l) #[] #[], .pointer (some ⟨Ba, 0, none⟩), .pointer (some ⟨Bn, 0, none⟩)] W fun e W' => (∃ v, e = .returned v) ∧
      ((∃ ys, ys = upto (placeAt fr n hn) ln.toNat ∧ J ys W') ∨ (∃ pre, (∃ k, k ≤ ln.toNat ∧ pre = upto (placeAt fr n hn) k) ∧ Jx pre W')) := by
  refine callsIn_of_wp Try.func45 rfl h45 ?_ hro
  simp only [Try.ntmps45, List.size_toArray, List.length_cons, List.length_nil, Nat.reduceAdd, Nat.reduceSub, Array.replicate_succ, Array.replicate_zero, List.push_toArray, List.append_toArray, List.nil_append, List.cons_append]
  gi_wp2
  gi_loopw [7] (fun i wr => ∃ k : Nat, (k : Int) ≤ ln ∧ i = .int .i64 k ∧ Hid (J (upto (placeAt fr n hn) k) wr) ∧ Hid (Keep2 Ba Bn W wr)) (fun i _ => ln.toNat - (intOf i).toNat)
  case atStart => exact ⟨0, by omega, rfl, Lib.hid h0, Lib.hid (Keep2.refl _ _ _)⟩
  case round =>
    obtain ⟨k, hk, rfl, hJs, hnx⟩ := hrel
    have d0 := (hnx.out.cellA 0).trans hc0
    have d1 := (hnx.out.cellA 1).trans hc1
    have d2 := (hnx.out.cellB 0).trans hcn
    by_cases hlt : (k : Int) < ln
    · have hYk := hY _ (placeAt fr n hn k) wr hJs.out (by rw [upto_length]; omega)
      rw [show (placeAt fr n hn k).1 = (fr + (k : Int)) % n from rfl] at hYk
      obtain ⟨fn, tmps, assign, body, hy, hR⟩ := hYk
      gi_wp2
      refine hR.mono ?_
      rintro e W3 (⟨rfl, hJ3, hk3⟩ | ⟨rfl, hJx3⟩)
      · gi_wp2
        go_roundw
        case rel => exact ⟨k + 1, by omega, by simp, Lib.hid (by rw [upto_succ]; exact hJ3), Lib.hid (hnx.out.trans hk3)⟩
        case measure => simp [intOf]; omega
      · gi_wp2
        refine bodyPost_ret (results_none rfl _ _ _) rfl ?_
        exact ⟨⟨_, rfl⟩, .inr ⟨_, ⟨k + 1, by omega, (upto_succ _ _).symm⟩, hJx3⟩⟩
    · have hke : (k : Int) = ln := by omega
      have hkk : k = ln.toNat := by omega
      subst hkk
      have hJf := hJs.out
      have HJF := Lib.hid hJf
      clear hJf hke
      gi_wp2
      go_end0
      exact ⟨⟨_, rfl⟩, .inl HJF.out⟩

/-- What an arc's places hand out, as the range's law wants it. -/
theorem places_stops (F : Fence) (m : Nat) (h45 : F.fn 45) (hro : F.round = none) (hm : 1 ≤ m) (Ba Bn : Nat) (fr ln n : Int) (hn : 1 ≤ n) (hn2 : n ≤ 1048576) (hf0 : 0 ≤ fr) (hf1 : fr < n) (hl0 : 0 ≤ ln) (hl1 : ln ≤ n)
    (w : World) (hc0 : w.cell? ⟨Ba, 0, none⟩ = some (.int .i64 fr)) (hc1 : w.cell? ⟨Ba, 1, none⟩ = some (.int .i64 ln)) (hcn : w.cell? ⟨Bn, 0, none⟩ = some (.int .i64 n)) :
    SeqStopsK F m Try.prog 45 #[.pointer (some ⟨Ba, 0, none⟩), .pointer (some ⟨Bn, 0, none⟩)] (fun x : PL n => #[Value.int .i64 x.1]) (Keep2 Ba Bn) (fun ys => ys = upto (placeAt fr n hn) ln.toNat) (fun pre => pre <+: upto (placeAt fr n hn) ln.toNat) ln.toNat w := fun l J Jx W hW _ _ hY h0 => by
  refine (places1_in F m h45 hro hm l Ba Bn fr ln n hn hn2 hf0 hf1 hl0 hl1 J Jx hY W ((hW.cell (p := ⟨Ba, 0, none⟩) (World.block_lt_of_cell? w _ hc0)).trans hc0) ((hW.cell (p := ⟨Ba, 1, none⟩) (World.block_lt_of_cell? w _ hc1)).trans hc1) ((hW.cell (p := ⟨Bn, 0, none⟩) (World.block_lt_of_cell? w _ hcn)).trans hcn) h0).mono ?_
  rintro e W' ⟨he, ⟨ys, rfl, hj⟩ | ⟨pre, ⟨k, hk, rfl⟩, hj⟩⟩
  · exact ⟨he, .inl ⟨_, rfl, hj⟩⟩
  · exact ⟨he, .inr ⟨_, upto_prefix _ hk, hj⟩⟩

set_option maxHeartbeats 1000000 in
/-- 'places': the arc and the ring are boxed; the function value captures the boxes. -/
theorem places_in (F : Fence) (m : Nat) (h43 : F.fn 43) (hro : F.round = none) (fr ln n : Int) (w : World) :
    CallsIn F m Try.prog 43 #[.agg #[.int .i64 fr, .int .i64 ln], .int .i64 n] w fun e w' => e = .returned (.func (.func 45) #[] #[.pointer (some ⟨w.heap.size, 0, none⟩), .pointer (some ⟨w.heap.size + 1, 0, none⟩)]) ∧ w' = (w.alloc (.cells #[.int .i64 fr, .int .i64 ln] 52)).alloc (.cells #[.int .i64 n] 3) := by
  refine callsIn_of_wp Try.func43 rfl h43 ?_ hro
  simp only [Try.ntmps43, List.size_toArray, List.length_cons, List.length_nil, Nat.reduceAdd, Nat.reduceSub, Array.replicate_succ, Array.replicate_zero, List.push_toArray, List.append_toArray, List.nil_append, List.cons_append]
  gi_wp2
  go_ret
  exact ⟨rfl, rfl⟩
end Go.Proofs.Ythnpacnmghlkmaa
