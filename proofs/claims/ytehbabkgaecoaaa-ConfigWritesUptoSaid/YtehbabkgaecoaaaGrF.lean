/- What it says of a configuration that it is not Great. -/
import Derived.Test.YtehbabkgaecoaaaGreat
import Derived.Test.YtehbabkgaecoaaaOpenZ
namespace Go.Proofs.Ytehbabkgaecoaaa
set_option linter.unusedVariables false
set_option linter.unusedSimpArgs false
open Go.RowKit Go.Proofs.YtehbabkgaecoaaaW.PrintWords

theorem fold_wrap {α : Type} (f : α → Nat) (l : List α) (B : Nat) (hB : ∀ x ∈ l, f x ≤ B) : ∀ a : Int, 0 ≤ a → a + l.length * (B : Int) ≤ 9223372036854775807 → l.foldl (fun n x => wrap64 (n + (f x : Int))) a = a + ((l.map f).sum : Nat) := by
  induction l with
  | nil => intro a _ _; simp
  | cons x l ih =>
    intro a ha hl
    have hx := hB x (by simp)
    have h1 : ((l.length + 1 : Nat) : Int) * (B : Int) = l.length * (B : Int) + B := by rw [Int.natCast_add, Int.add_mul]; simp
    rw [List.length_cons, h1] at hl
    have h2 : 0 ≤ (l.length : Int) * (B : Int) := Int.mul_nonneg (by omega) (by omega)
    rw [List.foldl_cons, IntWalk.wrap64_in _ ⟨by omega, by omega⟩, ih (fun y hy => hB y (by simp [hy])) _ (by omega) (by omega), List.map_cons, List.sum_cons]
    omega
theorem sum_flat {α β : Type} (f : α → List β) (l : List α) : (l.flatMap f).length = (l.map (fun x => (f x).length)).sum := by
  induction l with
  | nil => rfl
  | cons x l ih => rw [List.flatMap_cons, List.length_append, ih, List.map_cons, List.sum_cons]
theorem great_facts {C : S29} (h : greatB C = false) (hz : SzOk C) : C.f8.length ≤ 100 ∧ C.f10.length ≤ 100 ∧ C.f11.length ≤ 100 ∧ (C.f11.flatMap (fun x => x.f1)).length ≤ 1000 ∧ C.f1.length + C.f9.length ≤ 1000 ∧ ((C.f9.take 100).flatMap (fun x => x)).length ≤ 1000 := by
  unfold greatB at h
  simp only [Bool.or_eq_false_iff, decide_eq_false_iff_not] at h
  obtain ⟨⟨⟨h1, h2⟩, h3⟩, h4⟩ := h
  have s1 := hz.s1
  have s9 := hz.s9
  have e0 : wrap64 ((C.f1.length : Int) + (C.f9.length : Int)) = (C.f1.length : Int) + C.f9.length := IntWalk.wrap64_in _ ⟨by omega, by omega⟩
  have t9 : (C.f9.take 100).length ≤ 100 := List.length_take_le _ _
  have t11 : (C.f11.take 100).length ≤ 100 := List.length_take_le _ _
  have b9 : ∀ x ∈ C.f9.take 100, x.length ≤ 17592186044416 := fun x hx => by have := hz.s9' x (List.mem_of_mem_take hx); omega
  have b11 : ∀ x ∈ C.f11.take 100, x.f1.length ≤ 17592186044416 := fun x hx => by have := hz.s11' x (List.mem_of_mem_take hx); omega
  have e1 : gr1 C = (C.f1.length : Int) + C.f9.length + (((C.f9.take 100).map List.length).sum : Nat) := by
    unfold gr1
    rw [e0]
    exact fold_wrap List.length _ 17592186044416 b9 _ (by omega) (by omega)
  have hs : ((C.f9.take 100).map List.length).sum ≤ (C.f9.take 100).length * 17592186044416 := by
    generalize C.f9.take 100 = l at b9
    induction l with
    | nil => simp
    | cons x l ih =>
      have h1 := b9 x (by simp)
      have h2 := ih (fun y hy => b9 y (by simp [hy]))
      rw [List.map_cons, List.sum_cons, List.length_cons, Nat.add_mul]
      omega
  have e2 : gr2 C = gr1 C + (((C.f11.take 100).map (fun (l : S61) => l.f1.length)).sum : Nat) := by
    unfold gr2
    exact fold_wrap (fun (l : S61) => l.f1.length) _ 17592186044416 b11 _ (by rw [e1]; omega) (by rw [e1]; omega)
  have e3 : C.f11.take 100 = C.f11 := List.take_of_length_le (by omega)
  rw [e3] at e2
  refine ⟨by omega, by omega, by omega, ?_, by omega, ?_⟩
  · rw [sum_flat]; omega
  · rw [sum_flat]
    have : (C.f9.take 100).map (fun x => x.length) = (C.f9.take 100).map List.length := rfl
    rw [this]
    omega
end Go.Proofs.Ytehbabkgaecoaaa
