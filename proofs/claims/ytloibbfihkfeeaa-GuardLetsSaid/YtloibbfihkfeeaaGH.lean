/- What the statements' 'four' hands back. -/
import Derived.Test.YtloibbfihkfeeaaGG
namespace Go.Proofs.Ytloibbfihkfeeaa
set_option linter.unusedVariables false
set_option linter.unusedSimpArgs false
open Go.RowKit Go.Shelf Go.Proofs.YtloibbfihkfeeaaW.PrintWords

def C4 : S28 := ⟨4, [2, 0, 1, 3], 10, 2, 60, 60, 1, 1, [], [[-1, -1, -1, -1], [-1, -1, -1, -1], [-1, -1, -1, -1], [-1, -1, -1, -1]], [], []⟩
def V4 (g : Nat) : Value := .agg #[.int .i64 4, .slice (some ⟨g + 1, 0, none⟩) 4 4, .int .i64 10, .int .i64 2, .int .i64 60, .int .i64 60, .int .i64 1, .int .i64 1, .slice none 0 0, .slice (some ⟨g + 2, 0, none⟩) 4 4, .slice none 0 0, .slice none 0 0]
set_option maxRecDepth 100000 in
set_option maxHeartbeats 4000000 in
theorem four_calls (w : World) : Calls Try.prog 25 #[] w fun e w' => ∃ g, w.heap.size ≤ g ∧ e = .returned (V4 g) ∧ w'.heap[g]? = some (Obj.cells #[.int .i64 (-1), .int .i64 (-1), .int .i64 (-1), .int .i64 (-1)] 3) ∧ w'.heap[g + 1]? = some (Obj.cells #[.int .i64 2, .int .i64 0, .int .i64 1, .int .i64 3] 3) ∧ w'.heap[g + 2]? = some (Obj.cells #[.slice (some ⟨g, 0, none⟩) 4 4, .slice (some ⟨g, 0, none⟩) 4 4, .slice (some ⟨g, 0, none⟩) 4 4, .slice (some ⟨g, 0, none⟩) 4 4] 22) ∧ Below w.heap.size w w' := by
  go_enter Try.func25, Try.ntmps25
  go_wp2
  have hA : ((((w.alloc (Obj.cells #[.int .i64 4, .slice (some ⟨w.heap.size + 1 + 1, 0, none⟩) 4 4, .int .i64 10, .int .i64 2, .int .i64 60, .int .i64 60, .int .i64 1, .int .i64 1, .slice none 0 0, .slice (some ⟨w.heap.size + 1 + 1 + 1, 0, none⟩) 4 4, .slice none 0 0, .slice none 0 0] 28)).alloc (Obj.cells #[.int .i64 (-1), .int .i64 (-1), .int .i64 (-1), .int .i64 (-1)] 3)).alloc (Obj.cells #[.int .i64 2, .int .i64 0, .int .i64 1, .int .i64 3] 3)).alloc (Obj.cells #[.slice (some ⟨w.heap.size + 1, 0, none⟩) 4 4, .slice (some ⟨w.heap.size + 1, 0, none⟩) 4 4, .slice (some ⟨w.heap.size + 1, 0, none⟩) 4 4, .slice (some ⟨w.heap.size + 1, 0, none⟩) 4 4] 22)).heap[w.heap.size]? = some (Obj.cells #[.int .i64 4, .slice (some ⟨w.heap.size + 1 + 1, 0, none⟩) 4 4, .int .i64 10, .int .i64 2, .int .i64 60, .int .i64 60, .int .i64 1, .int .i64 1, .slice none 0 0, .slice (some ⟨w.heap.size + 1 + 1 + 1, 0, none⟩) 4 4, .slice none 0 0, .slice none 0 0] 28) := blk_alloc (blk_alloc (blk_alloc (blk_new w _) _) _) _
  have c0 := blk_cell hA 0
  have c1 := blk_cell hA 1
  have c2 := blk_cell hA 2
  have c3 := blk_cell hA 3
  have c4 := blk_cell hA 4
  have c5 := blk_cell hA 5
  have c6 := blk_cell hA 6
  have c7 := blk_cell hA 7
  have c8 := blk_cell hA 8
  have c9 := blk_cell hA 9
  have c10 := blk_cell hA 10
  have c11 := blk_cell hA 11
  refine bodyPost_ret (v := V4 (w.heap.size + 1)) (by simp [results, Try.f25, V4, go_sem, c0, c1, c2, c3, c4, c5, c6, c7, c8, c9, c10, c11]) rfl ?_
  refine ⟨w.heap.size + 1, by omega, rfl, ?_, ?_, ?_, ?_⟩
  · exact blk_alloc (blk_alloc (blk_new_at _ _ (by simp)) _) _
  · exact blk_alloc (blk_new_at _ _ (by simp)) _
  · exact blk_new_at _ _ (by simp)
  · exact ((((Below.refl _ _).alloc (Nat.le_refl _) _).alloc (by simp) _).alloc (by simp; omega) _).alloc (by simp; omega) _
theorem ints_row {W : World} {b : Nat} (l : List Int) (hb : W.heap[b]? = some (Obj.cells (l.map (Value.int .i64)).toArray 3)) (hl : l.length ≤ 9223372036854775807) : Kd.C kI W (some ⟨b, 0, none⟩) l.length l := by
  refine ⟨rfl, hl, fun _ => ⟨_, rfl, fun j p hj => ⟨[.int .i64 p], rfl, rfl, fun i u hu => ?_⟩⟩⟩
  match i, hu with
  | 0, hu =>
    simp at hu
    subst hu
    have := blk_cell hb j
    simp only [List.getElem?_toArray, List.getElem?_map, hj, Option.map_some] at this
    cases j <;> simpa [kI, Kd.int, Kd.scalar, Addr.add] using this
  | i + 1, hu => simp at hu
theorem four_in {W : World} {g : Nat} (h1 : W.heap[g]? = some (Obj.cells #[.int .i64 (-1), .int .i64 (-1), .int .i64 (-1), .int .i64 (-1)] 3)) (h2 : W.heap[g + 1]? = some (Obj.cells #[.int .i64 2, .int .i64 0, .int .i64 1, .int .i64 3] 3)) (h3 : W.heap[g + 2]? = some (Obj.cells #[.slice (some ⟨g, 0, none⟩) 4 4, .slice (some ⟨g, 0, none⟩) 4 4, .slice (some ⟨g, 0, none⟩) 4 4, .slice (some ⟨g, 0, none⟩) 4 4] 22)) : CfgIn W C4 (some ⟨g + 1, 0, none⟩) none (some ⟨g + 2, 0, none⟩) none none 4 0 4 0 0 := by
  have hi := ints_row [-1, -1, -1, -1] h1 (by simp)
  have hh : ∀ p ∈ C4.f9, p = [-1, -1, -1, -1] := by simp [C4]
  refine ⟨⟨by simp [C4], ints_row [2, 0, 1, 3] h2 (by simp)⟩, ⟨by simp [C4], Kd.C_nil _ _⟩, ⟨by simp [C4], rfl, by simp [C4], fun _ => ⟨_, rfl, fun j p hj => ⟨[.slice (some ⟨g, 0, none⟩) 4 4], rfl, ?_, fun i u hu => ?_⟩⟩⟩, ⟨by simp [C4], Kd.C_nil _ _⟩, by simp [C4], Kd.C_nil _ _⟩
  · rw [hh p (List.mem_of_getElem? hj)]
    exact ⟨_, 4, rfl, by simp, hi⟩
  · have hjl : j < 4 := by have := (List.getElem?_eq_some_iff.1 hj).1; simpa [C4] using this
    match i, hu with
    | 0, hu =>
      simp at hu
      subst hu
      have := blk_cell h3 j
      match j, hjl with
      | 0, _ => simpa [Kd.slice, Addr.add] using this
      | 1, _ => simpa [Kd.slice, Addr.add] using this
      | 2, _ => simpa [Kd.slice, Addr.add] using this
      | 3, _ => simpa [Kd.slice, Addr.add] using this
    | i + 1, hu => simp at hu
theorem four_ok : checkN C4 = 0 := by decide +kernel
theorem four_plan : (planW C4 200 1 5).1.f0 = 0 ∧ (planW C4 200 1 5).1.f1 = 255 ∧ (planW C4 200 1 5).1.f2 = 335 ∧ (planW C4 200 1 5).2 = 0 := by decide +kernel
/-- A shot's verdict by the chapter's configuration: its number, and its error. -/
def isV (x : Sh) : Int := if mayW C4 200 0 [x] = 0 then verdictW C4 200 0 x else 0
def isB (x : Sh) (want : Int) : Bool := decide (isV x = want) && decide (mayW C4 200 0 [x] = 0)
theorem four_is : isB ⟨0, 255, 335⟩ 0 = true ∧ isB ⟨1, 255, 335⟩ 3 = true := by decide +kernel
set_option maxHeartbeats 1000000 in
theorem shot_calls (a b c : Int) (w : World) : Calls Try.prog 24 #[.int .i64 a, .int .i64 b, .int .i64 c] w fun e w' => e = .returned (.agg #[.int .i64 a, .int .i64 b, .int .i64 c]) ∧ Below w.heap.size w w' := by
  go_enter Try.func24, Try.ntmps24
  go_wp2
  have hA := blk_new w (Obj.cells #[.int .i64 a, .int .i64 b, .int .i64 c] 32)
  have c0 := blk_cell hA 0
  have c1 := blk_cell hA 1
  have c2 := blk_cell hA 2
  refine bodyPost_ret (v := .agg #[.int .i64 a, .int .i64 b, .int .i64 c]) (by simp [results, Try.f24, go_sem, c0, c1, c2]) rfl ?_
  exact ⟨rfl, (Below.refl _ _).alloc (Nat.le_refl _) _⟩
end Go.Proofs.Ytloibbfihkfeeaa
