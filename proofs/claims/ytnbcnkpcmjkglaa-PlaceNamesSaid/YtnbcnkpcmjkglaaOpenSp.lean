/- An argument that is a slice of spans, opened. -/
import Derived.Deep.SlicePairs
import Derived.ProofKit
import Derived.Test.YtnbcnkpcmjkglaaPx0
namespace Go.Proofs.Ytnbcnkpcmjkglaa
open Go.RowKit Go.ChangeShapes Go.WideShapes Go.Deep Go.Proofs.Ytnbcnkpcmjkglaa.Px Go.Proofs.YtnbcnkpcmjkglaaW.PrintWords

theorem open_spans {H : Type} {enc : TypeId × Value → H} {W : World} {a : Option Addr} {len cap : Nat} {d : DataW H} {p : List MemPlace} (h : DataW.Trod enc Try.prog W 0 (fun _ => true) true 22 (.slice a len cap) d p) :
    ∃ l : List S30, len = l.length ∧ Kd.C k30 W a l.length l ∧ l.length ≤ cap ∧ ∀ x ∈ l, (Lit.int .i64 x.f0).wf = true ∧ (Lit.int .i64 x.f1).wf = true := by
  obtain ⟨fuel, hf⟩ := h
  rcases open_slice_pairs Try.underlying22 Try.underlying30 (by kernel_rfl) rfl rfl (by kernel_rfl) (by kernel_rfl) hf with ⟨hcs, _⟩ | ⟨x, l, c, m, n, V0, V1, D0, D1, P0, P1, hcs, _, hl, hm, hmm, _, hcell⟩
  · simp [Value.cells] at hcs
    obtain ⟨rfl, rfl, rfl⟩ := hcs
    exact ⟨[], rfl, ⟨rfl, by simp, fun h => by simp at h⟩, by simp, fun x hx => by simp at hx⟩
  · simp [Value.cells] at hcs
    obtain ⟨rfl, rfl, rfl⟩ := hcs
    have hlm : len ≤ m := by rw [hmm]; simp; omega
    have hV : ∀ i, i < len → V0 i = .int .i64 (intOf (V0 i)) ∧ V1 i = .int .i64 (intOf (V1 i)) ∧ (Lit.int .i64 (intOf (V0 i))).wf = true ∧ (Lit.int .i64 (intOf (V1 i))).wf = true := by
      intro i hi
      obtain ⟨_, _, h2, h3⟩ := hcell i (by omega)
      obtain ⟨x0, e0, _, w0⟩ := DataW.trod_int (k := .i64) Try.underlying3 h2
      obtain ⟨x1, e1, _, w1⟩ := DataW.trod_int (k := .i64) Try.underlying3 h3
      simp at e0 e1
      rw [e0, e1]
      exact ⟨rfl, rfl, w0, w1⟩
    refine ⟨(List.range len).map (fun i => ⟨intOf (V0 i), intOf (V1 i)⟩), by simp, ⟨rfl, by simp [maxLen] at *; omega, fun _ => ⟨x, rfl, ?_⟩⟩, by simpa using hl, ?_⟩
    · intro j q hq
      have hj : j < len := by
        have := (List.getElem?_eq_some_iff.1 hq).1
        simpa using this
      simp [List.getElem?_map, List.getElem?_range hj] at hq
      subst hq
      obtain ⟨c0, c1, _, _⟩ := hcell j (by omega)
      obtain ⟨e0, e1, _, _⟩ := hV j hj
      refine ⟨[.int .i64 (intOf (V0 j)), .int .i64 (intOf (V1 j))], rfl, k30_mk _ _, ?_⟩
      intro i u hu
      match i, hu with
      | 0, hu => simp at hu; subst hu; rw [← e0]; exact c0
      | 1, hu => simp at hu; subst hu; rw [← e1]; exact c1
      | i + 2, hu => simp at hu
    · intro y hy
      simp only [List.mem_map, List.mem_range] at hy
      obtain ⟨i, hi, rfl⟩ := hy
      exact ⟨(hV i hi).2.2.1, (hV i hi).2.2.2⟩
end Go.Proofs.Ytnbcnkpcmjkglaa
