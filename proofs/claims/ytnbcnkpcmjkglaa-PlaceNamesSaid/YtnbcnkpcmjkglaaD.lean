/- The library's SortFunc and Clone at spans. -/
import Derived.Test.YtnbcnkpcmjkglaaC
import Derived.Test.YtnbcnkpcmjkglaaSh
import Derived.Test.YtnbcnkpcmjkglaaPlA
import Derived.Shelf.SlSortCmp.NoneTotal
namespace Go.Proofs.Ytnbcnkpcmjkglaa
open Go.RowKit Go.Shelf Go.Lib Go.Sort Go.Proofs.Ytnbcnkpcmjkglaa.Px Go.Proofs.YtnbcnkpcmjkglaaW.PrintWords Go.Proofs.YtnbcnkpcmjkglaaW.PrintLast

instance inhS : Inhabited S30 := ⟨z30⟩
def encS (s : S30) : List Value := [.int .i64 s.f0, .int .i64 s.f1]
def cfS (s t : S30) : Int := if s.f0 < t.f0 then -1 else if t.f0 < s.f0 then 1 else 0
theorem ltS (s t : S30) : ltOf cfS s t = decide (s.f0 < t.f0) := by
  unfold ltOf cfS
  rw [decide_eq_decide]
  split
  · simp_all
  · split <;> simp_all
theorem swoS : SWO (ltOf cfS) := ⟨fun x => by simp [ltS], fun x y z => by simp only [ltS, decide_eq_true_eq]; omega, fun x y z => by simp only [ltS, decide_eq_false_iff_not]; omega⟩
theorem Row.holds {g : Nat} {m : List S30} {W : World} (h : Row g m W) : HoldsK encS 2 W g 0 m.toArray := by
  intro j hj
  have hj2 : j < m.length * 2 := by simpa using hj
  refine ⟨?_, by rw [Nat.zero_add]; exact h.f j⟩
  rw [get_flatK _ _ _ _ (by simpa using hj2), Nat.zero_add]
  have hd : m.toArray[j / 2]! = m[j / 2] := by rw [getElem!_pos _ _ (by simp; omega)]; simp
  obtain ⟨c0, c1⟩ := h.c (j / 2) m[j / 2] (List.getElem?_eq_getElem (by omega))
  rw [hd]
  have hm : j % 2 = 0 ∨ j % 2 = 1 := by omega
  rcases hm with e | e
  · rw [e]
    have h2 : j = j / 2 * 2 := by omega
    have : W.cell? ⟨g, j, none⟩ = W.cell? ⟨g, j / 2 * 2, none⟩ := by rw [← h2]
    rw [this]
    exact c0
  · rw [e]
    have h2 : j = j / 2 * 2 + 1 := by omega
    have : W.cell? ⟨g, j, none⟩ = W.cell? ⟨g, j / 2 * 2 + 1, none⟩ := by rw [← h2]
    rw [this]
    exact c1
theorem sort_calls (g c : Nat) (m : List S30) (W : World) (h : Row g m W) (hm : m.length < 4611686018427387904) :
    Calls Try.prog 33 #[.slice (some ⟨g, 0, none⟩) m.length c, .func (.func 34) #[] #[]] W fun e W' => e = .returned (.tuple #[]) ∧ (∃ m' : List S30, m'.Perm m ∧ m'.Pairwise (fun s t => s.f0 ≤ t.f0) ∧ Row g m' W') ∧ Kp g W W' ∧ ∀ s, s ≤ g → Below s W W' := by
  have hcmp : CmpLays Try.prog 34 #[] encS 2 cfS g 0 m.toArray.size W := by
    intro q os dk _ x y
    refine (cmp_calls x y (sortWorldK encS 2 W g 0 q dk os)).mono ?_
    rintro e w' ⟨rfl, rfl⟩
    exact ⟨rfl, 0, #[Obj.cells #[.int .i64 x.f0, .int .i64 x.f1] 30, Obj.cells #[.int .i64 y.f0, .int .i64 y.f1] 30], by rw [alloc_eq_grow, alloc_eq_grow, grow_grow]; rfl⟩
  have hh := AnyQ.slices_SortFunc laysSort 2 Try.isAgg30 Try.sizeOf30 encS (fun _ => rfl) (fun x v hv => by simp only [encS, List.mem_cons, List.not_mem_nil, or_false] at hv; rcases hv with rfl | rfl <;> rfl) cfS swoS 34 #[] g 0 c m.toArray W (fun _ _ => rfl) hcmp h.holds h.lt (by simpa using hm)
  refine hh.mono ?_
  rintro e W' ⟨rfl, d', n, os, hp, hs, rfl⟩
  have hsz : d'.size = m.length := by rw [hp.1]; simp
  have hhold : HoldsK encS 2 (sortWorldK encS 2 W g 0 n d' os) g 0 d' :=
    holdsK_grow encS 2 (putRowK encS 2 (Go.Sort.ahead W n) g 0 d') os g 0 d' (by rw [putRowK, size_putRow]; exact h.lt) (holdsK_putRowK encS 2 (Go.Sort.ahead W n) g 0 m.toArray d' h.holds (by rw [hsz]; simp))
  have hold : ∀ k, k < W.heap.size → k ≠ g → (sortWorldK encS 2 W g 0 n d' os).heap[k]? = W.heap[k]? := fun k hk hg => by
    rw [sortWorldK, heap_grow_old _ _ (by rw [putRowK, size_putRow]; exact hk)]
    show (W.heap.modify g _)[k]? = _
    rw [Array.getElem?_modify, if_neg (fun he => hg he.symm)]
  have hge : W.heap.size ≤ (sortWorldK encS 2 W g 0 n d' os).heap.size := by rw [sortWorldK, size_grow, putRowK, size_putRow]; exact Nat.le_add_right _ _
  refine ⟨rfl, ⟨d'.toList, ?_, ?_, ⟨Nat.lt_of_lt_of_le h.lt hge, fun i s hi => ?_, fun j => ?_⟩⟩, ⟨hge, hold⟩, fun s hs => ⟨rfl, rfl, rfl, hge, fun k hk => hold k (by have := h.lt; omega) (by omega)⟩⟩
  · have := hp.2.2
    rw [show m.toArray.size = d'.size by rw [hsz]; simp, Array.extract_size] at this
    rw [show d'.size = m.toArray.size by rw [hsz]; simp, Array.extract_size] at this
    simpa using this
  · rw [List.pairwise_iff_getElem]
    intro i j hi hj hij
    have := hs i j (Nat.zero_le _) hij (by simpa [hsz] using hj)
    rw [ltS, decide_eq_false_iff_not, getElem!_pos d' j (by simpa using hj), getElem!_pos d' i (by simpa using hi)] at this
    simp only [Array.getElem_toList]
    omega
  · obtain ⟨hi', hx⟩ := List.getElem?_eq_some_iff.1 hi
    have hi2 : i < d'.size := by simpa using hi'
    have hd : d'[i]! = s := by rw [getElem!_pos d' i hi2, ← hx]; simp
    have c0 := (hhold.cell hi2 (c := 0) (by omega)).1
    have c1 := (hhold.cell hi2 (c := 1) (by omega)).1
    rw [hd] at c0 c1
    rw [Nat.zero_add] at c0 c1
    exact ⟨c0, c1⟩
  · rw [sortWorldK, frozen?_grow _ _ _ (by rw [putRowK, size_putRow]; exact h.lt), putRowK, frozen?_putRow]
    exact h.f j
end Go.Proofs.Ytnbcnkpcmjkglaa
