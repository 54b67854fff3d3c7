/- A region that draws its order: what each order comes to, the frame found at the walk's end. -/
import Derived.Test.YtehbabkgaecoaaaRangeF
namespace Go.Proofs.Ytehbabkgaecoaaa
set_option linter.unusedVariables false
set_option linter.unusedSimpArgs false
open Go.RowKit Go.Shelf Go.Proofs.YtehbabkgaecoaaaW.PrintWords Go.Proofs.YtehbabkgaecoaaaW.PrintLast

/-- What lay in W lies so in V. -/
def Bz (W V : World) : Prop := Below W.heap.size W V
theorem Bz.cell {W V : World} (h : Bz W V) {p : Addr} {v : Value} (hc : W.cell? p = some v) : V.cell? p = some v := (Below.cell h (World.block_lt_of_cell? W _ hc)).trans hc
theorem Bz.drew0 (W : World) : Bz W W.drew := (Below.refl _ _).drew
theorem region_z {P : Program} {ops : Array Oper} {Q : Exit → Act → World → Prop} {id N : Nat} {a : Act} {w : World} {ds : List Nat} {A : Act} (lst : Array Bool) (hm : P.follows .mixedOrders = true) (hN : ops.size = N) (hl : Array.replicate N false = lst)
    (h1 : ∀ Wd, Bz w Wd → wpAnyLast P .any ops (fun e a' w' => e = .normal ∧ a' = A ∧ Bz w w') (Bz w) ds N lst a Wd)
    (h2 : ∀ w', Bz w w' → Q .normal A w') : (Code.region id ops true).wp P Q a w := by
  refine wp_mono (Q := fun e a' w' => e = .normal ∧ a' = A ∧ Bz w w') (start_ lst hm hN hl (Bz.drew0 w) (fun _ => h1 _ (Bz.drew0 w))) ?_
  rintro e a' w' ⟨rfl, rfl, hr⟩
  exact h2 w' hr
theorem gate_z {P : Program} {ops : Array Oper} {rest : List Oper} {o : Oper} {a : Act} {Q : Exit → Act → World → Prop} {W : World} {b : Builtin} {xs : Array Operand} {ts : Array TypeId} (_ho : o.op = .call { callee := .builtin b, args := xs, argTypes := ts }) (h : wpList P ops Q (o :: rest) a W) : wpList P ops Q (o :: rest) a W := h
end Go.Proofs.Ytehbabkgaecoaaa
