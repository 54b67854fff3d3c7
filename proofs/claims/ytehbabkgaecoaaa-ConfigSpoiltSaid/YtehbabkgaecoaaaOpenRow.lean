/- Slices and structs as arguments, opened. -/
import Derived.Test.YtehbabkgaecoaaaOpenKd
namespace Go.Proofs.Ytehbabkgaecoaaa
set_option linter.unusedVariables false
set_option linter.unusedSimpArgs false
open Go.RowKit Go.Proofs.YtehbabkgaecoaaaW.PrintWords
section
variable {P : Program}
/-- A slice argument, opened. -/
theorem open_row {α : Type} {T e : TypeId} {d : Kd α} {G : List α → Prop} (h : Opens P T (Kd.slice e d) G) {H : Type} {enc : TypeId × Value → H} {w : World} {base : Nat} {spare : Nat → Bool} {held : Bool} {a : Option Addr} {len cap : Nat} {y : DataW H} {p : List MemPlace} (ht : DataW.Trod enc P w base spare held T (.slice a len cap) y p) :
    ∃ l : List α, len = l.length ∧ d.C w a l.length l ∧ l.length ≤ cap ∧ G l := by
  obtain ⟨l, ⟨A, c, hcs, hl, hc⟩, hg⟩ := h.trod ht
  simp only [Value.cells, List.cons.injEq, Value.slice.injEq, and_true] at hcs
  obtain ⟨rfl, rfl, rfl⟩ := hcs
  exact ⟨l, rfl, hc, hl, hg⟩
/-- A struct argument, opened. -/
theorem open_agg {α : Type} {T : TypeId} {d : Kd α} {G : α → Prop} (h : Opens P T d G) {H : Type} {enc : TypeId × Value → H} {w : World} {base : Nat} {spare : Nat → Bool} {held : Bool} {cs : Array Value} {y : DataW H} {p : List MemPlace} (ht : DataW.Trod enc P w base spare held T (.agg cs) y p) :
    ∃ x, d.K w x cs.toList ∧ G x := h.trod ht
theorem arr_of {cs : Array Value} {l : List Value} (h : cs.toList = l) : cs = l.toArray := by subst h; simp
end
end Go.Proofs.Ytehbabkgaecoaaa
