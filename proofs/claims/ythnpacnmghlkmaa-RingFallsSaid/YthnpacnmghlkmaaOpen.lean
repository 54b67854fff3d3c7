/- An array of whole numbers that came in by value: its numbers. -/
import Derived.Test.YthnpacnmghlkmaaProg
import Derived.OpenShut
import Derived.WideKeyArr2
import Derived.ProofKit
namespace Go.Proofs.Ythnpacnmghlkmaa
open Go.ChangeShapes Go.WideShapes Go.RowKit

theorem open_int_array {H : Type} {enc : TypeId × Value → H} {P : Program} {W : World} {base : Nat} {sp : Nat → Bool} {held : Bool} {r : Reach} {b0 : Nat} {t e : TypeId} {n : Nat} {k : IntKind} {v : Value} {d : DataW H} {p : List MemPlace}
    (hu : P.underlying t = some (.array n e)) (he : P.underlying e = some (.int k)) (hc : P.cellsOf e = 1) (hs : P.cellsOf t = n) (hval : Value.okWide P W r b0 t v) (hd : DataW.Trod enc P W base sp held t v d p) :
    ∃ z : List Int, v = .agg (z.map (Value.int k)).toArray ∧ z.length = n ∧ ∀ x ∈ z, (Lit.int k x).wf = true := by
  simp only [Value.okWide, hu] at hval
  obtain ⟨cs, rfl, hsz, _⟩ := hval
  rw [hs] at hsz
  obtain ⟨fuel, hf⟩ := hd
  obtain ⟨xs, m, rfl, _, _, hxn, hel⟩ := DataW.trod_array hu hf
  have key : ∀ i, (hi : i < cs.size) → ∃ a, cs[i] = .int k a ∧ (Lit.int k a).wf = true := fun i hi => by
    have h := hel i (by omega)
    rw [hc, Nat.mul_one, List.getElem?_eq_getElem (by omega)] at h
    obtain ⟨a, e1, _, wa⟩ := DataW.trod_int he h
    refine ⟨a, ?_, wa⟩
    have h2 : (List.drop i (Value.agg cs).cells.toList).take 1 = [cs[i]] := by
      simp only [Value.cells]
      rw [List.drop_eq_getElem_cons (by simpa using hi)]
      simp
    first
    | (rw [h2] at e1; exact (List.cons.inj e1).1)
    | (have e2 := h2.symm.trans e1; exact (List.cons.inj e2).1)
  refine ⟨cs.toList.map (fun v => match v with | .int _ a => a | _ => 0), ?_, by simp [hsz], ?_⟩
  · congr 1
    apply Array.ext
    · simp
    · intro i h1 h2
      obtain ⟨a, ha, _⟩ := key i h1
      simp [ha]
  · intro x hx
    obtain ⟨v, hv, rfl⟩ := List.mem_map.1 hx
    obtain ⟨i, hi, rfl⟩ := List.mem_iff_getElem.1 hv
    obtain ⟨a, ha, wa⟩ := key i (by simpa using hi)
    simp only [Array.getElem_toList]
    rw [ha]; exact wa
theorem list2 {α : Type} : ∀ {l : List α}, l.length = 2 → ∃ a b, l = [a, b]
  | [a, b], _ => ⟨a, b, rfl⟩
  | [], h => by simp at h
  | [_], h => by simp at h
  | _ :: _ :: _ :: _, h => by simp at h
theorem list3 {α : Type} : ∀ {l : List α}, l.length = 3 → ∃ a b c, l = [a, b, c]
  | [a, b, c], _ => ⟨a, b, c, rfl⟩
  | [], h => by simp at h
  | [_], h => by simp at h
  | [_, _], h => by simp at h
  | _ :: _ :: _ :: _ :: _, h => by simp at h
theorem list4 {α : Type} : ∀ {l : List α}, l.length = 4 → ∃ a b c d, l = [a, b, c, d]
  | [a, b, c, d], _ => ⟨a, b, c, d, rfl⟩
  | [], h => by simp at h
  | [_], h => by simp at h
  | [_, _], h => by simp at h
  | [_, _, _], h => by simp at h
  | _ :: _ :: _ :: _ :: _ :: _, h => by simp at h
end Go.Proofs.Ythnpacnmghlkmaa
