/- A configuration as an argument: what of it is read; a block that holds one. -/
import Derived.Test.YtehbabkgaecoaaaKinds
import Derived.Test.YtehbabkgaecoaaaOpenKd
namespace Go.Proofs.Ytehbabkgaecoaaa
set_option linter.unusedVariables false
set_option linter.unusedSimpArgs false
open Go.RowKit Go.Proofs.YtehbabkgaecoaaaW.PrintWords

abbrev kI : Kd Int := Kd.int .i64
/-- The rows of a configuration's fields are there to be read. -/
def CfgIn (w : World) (C : S29) (A1 A8 A9 A10 A11 : Option Addr) (c1 c8 c9 c10 c11 : Nat) : Prop :=
  (C.f1.length ≤ c1 ∧ Kd.C kI w A1 C.f1.length C.f1) ∧ (C.f8.length ≤ c8 ∧ Kd.C k57 w A8 C.f8.length C.f8) ∧ (C.f9.length ≤ c9 ∧ Kd.C (Kd.slice 3 kI) w A9 C.f9.length C.f9) ∧
  (C.f10.length ≤ c10 ∧ Kd.C k59 w A10 C.f10.length C.f10) ∧ (C.f11.length ≤ c11 ∧ Kd.C k61 w A11 C.f11.length C.f11)
section
variable {w W : World} {C : S29} {A1 A8 A9 A10 A11 : Option Addr} {c1 c8 c9 c10 c11 : Nat}
theorem CfgIn.below (h : CfgIn w C A1 A8 A9 A10 A11 c1 c8 c9 c10 c11) (hb : Below w.heap.size w W) : CfgIn W C A1 A8 A9 A10 A11 c1 c8 c9 c10 c11 :=
  ⟨⟨h.1.1, Kd.C_below h.1.2 hb⟩, ⟨h.2.1.1, Kd.C_below h.2.1.2 hb⟩, ⟨h.2.2.1.1, Kd.C_below h.2.2.1.2 hb⟩, ⟨h.2.2.2.1.1, Kd.C_below h.2.2.2.1.2 hb⟩, ⟨h.2.2.2.2.1, Kd.C_below h.2.2.2.2.2 hb⟩⟩
theorem CfgIn.len (h : CfgIn w C A1 A8 A9 A10 A11 c1 c8 c9 c10 c11) : C.f1.length ≤ 9223372036854775807 ∧ C.f8.length ≤ 9223372036854775807 ∧ C.f9.length ≤ 9223372036854775807 ∧ C.f10.length ≤ 9223372036854775807 ∧ C.f11.length ≤ 9223372036854775807 := ⟨h.1.2.2.1, h.2.1.2.2.1, h.2.2.1.2.2.1, h.2.2.2.1.2.2.1, h.2.2.2.2.2.2.1⟩
end
/-- The cells of a block that holds a configuration. -/
theorem cfg_cells {W : World} {B : Nat} {v0 v1 v2 v3 v4 v5 v6 v7 v8 v9 v10 v11 : Value} {t : TypeId} (h : W.heap[B]? = some (Obj.cells #[v0, v1, v2, v3, v4, v5, v6, v7, v8, v9, v10, v11] t (0, 0))) :
    W.cell? ⟨B, 0, none⟩ = some v0 ∧ W.cell? ⟨B, 1, none⟩ = some v1 ∧ W.cell? ⟨B, 2, none⟩ = some v2 ∧ W.cell? ⟨B, 3, none⟩ = some v3 ∧ W.cell? ⟨B, 4, none⟩ = some v4 ∧ W.cell? ⟨B, 5, none⟩ = some v5 ∧ W.cell? ⟨B, 6, none⟩ = some v6 ∧ W.cell? ⟨B, 7, none⟩ = some v7 ∧ W.cell? ⟨B, 8, none⟩ = some v8 ∧ W.cell? ⟨B, 9, none⟩ = some v9 ∧ W.cell? ⟨B, 10, none⟩ = some v10 ∧ W.cell? ⟨B, 11, none⟩ = some v11 :=
  ⟨blk_cell h 0, blk_cell h 1, blk_cell h 2, blk_cell h 3, blk_cell h 4, blk_cell h 5, blk_cell h 6, blk_cell h 7, blk_cell h 8, blk_cell h 9, blk_cell h 10, blk_cell h 11⟩
theorem cells12_below {W W2 : World} {B : Nat} {v0 v1 v2 v3 v4 v5 v6 v7 v8 v9 v10 v11 : Value} (hb : Below W.heap.size W W2) (h : W.cell? ⟨B, 0, none⟩ = some v0 ∧ W.cell? ⟨B, 1, none⟩ = some v1 ∧ W.cell? ⟨B, 2, none⟩ = some v2 ∧ W.cell? ⟨B, 3, none⟩ = some v3 ∧ W.cell? ⟨B, 4, none⟩ = some v4 ∧ W.cell? ⟨B, 5, none⟩ = some v5 ∧ W.cell? ⟨B, 6, none⟩ = some v6 ∧ W.cell? ⟨B, 7, none⟩ = some v7 ∧ W.cell? ⟨B, 8, none⟩ = some v8 ∧ W.cell? ⟨B, 9, none⟩ = some v9 ∧ W.cell? ⟨B, 10, none⟩ = some v10 ∧ W.cell? ⟨B, 11, none⟩ = some v11) :
    W2.cell? ⟨B, 0, none⟩ = some v0 ∧ W2.cell? ⟨B, 1, none⟩ = some v1 ∧ W2.cell? ⟨B, 2, none⟩ = some v2 ∧ W2.cell? ⟨B, 3, none⟩ = some v3 ∧ W2.cell? ⟨B, 4, none⟩ = some v4 ∧ W2.cell? ⟨B, 5, none⟩ = some v5 ∧ W2.cell? ⟨B, 6, none⟩ = some v6 ∧ W2.cell? ⟨B, 7, none⟩ = some v7 ∧ W2.cell? ⟨B, 8, none⟩ = some v8 ∧ W2.cell? ⟨B, 9, none⟩ = some v9 ∧ W2.cell? ⟨B, 10, none⟩ = some v10 ∧ W2.cell? ⟨B, 11, none⟩ = some v11 := by
  obtain ⟨h0, h1, h2, h3, h4, h5, h6, h7, h8, h9, h10, h11⟩ := h
  exact ⟨(hb.cell (World.block_lt_of_cell? W _ h0)).trans h0, (hb.cell (World.block_lt_of_cell? W _ h1)).trans h1, (hb.cell (World.block_lt_of_cell? W _ h2)).trans h2, (hb.cell (World.block_lt_of_cell? W _ h3)).trans h3, (hb.cell (World.block_lt_of_cell? W _ h4)).trans h4, (hb.cell (World.block_lt_of_cell? W _ h5)).trans h5, (hb.cell (World.block_lt_of_cell? W _ h6)).trans h6, (hb.cell (World.block_lt_of_cell? W _ h7)).trans h7, (hb.cell (World.block_lt_of_cell? W _ h8)).trans h8, (hb.cell (World.block_lt_of_cell? W _ h9)).trans h9, (hb.cell (World.block_lt_of_cell? W _ h10)).trans h10, (hb.cell (World.block_lt_of_cell? W _ h11)).trans h11⟩
/-- A number of 64 bits. -/
def I64 (n : Int) : Prop := (Lit.int .i64 n).wf = true
def PartOk (p : S57) : Prop := I64 p.f0 ∧ I64 p.f1 ∧ I64 p.f2
def PortOk (p : S59) : Prop := I64 p.f0 ∧ I64 p.f1 ∧ I64 p.f2 ∧ I64 p.f3 ∧ I64 p.f4 ∧ I64 p.f5
def LinkOk (l : S61) : Prop := I64 l.f0 ∧ (l.f1.length ≤ maxLen ∧ ∀ x ∈ l.f1, I64 x) ∧ I64 l.f2
def CfgOk (C : S29) : Prop :=
  I64 C.f0 ∧ (C.f1.length ≤ maxLen ∧ ∀ x ∈ C.f1, I64 x) ∧ I64 C.f2 ∧ I64 C.f3 ∧ I64 C.f4 ∧ I64 C.f5 ∧ I64 C.f6 ∧ I64 C.f7 ∧ (C.f8.length ≤ maxLen ∧ ∀ x ∈ C.f8, PartOk x) ∧ (C.f9.length ≤ maxLen ∧ ∀ x ∈ C.f9, x.length ≤ maxLen ∧ ∀ y ∈ x, I64 y) ∧ (C.f10.length ≤ maxLen ∧ ∀ x ∈ C.f10, PortOk x) ∧ (C.f11.length ≤ maxLen ∧ ∀ x ∈ C.f11, LinkOk x)
theorem I64.bd {n : Int} (h : I64 n) : -9223372036854775808 ≤ n ∧ n ≤ 9223372036854775807 := by
  unfold I64 at h
  simp [Lit.wf, IntKind.min, IntKind.max, IntKind.signed, IntKind.bits] at h
  omega
theorem oI : Opens Try.prog 3 kI I64 := opens_int Try.underlying3
theorem oIs : Opens Try.prog 23 (Kd.slice 3 kI) (fun xs => xs.length ≤ maxLen ∧ ∀ x ∈ xs, I64 x) := opens_slice Try.underlying23 oI (by kernel_rfl)
theorem oPart : Opens Try.prog 57 k57 PartOk :=
  opens_struct (fun x : S57 => (x.f0, x.f1, x.f2)) (fun x => ⟨x.1, x.2.1, x.2.2⟩) Try.underlying57 (by kernel_rfl)
    (opensF_cons oI rfl (by kernel_rfl) rfl (opensF_cons oI rfl (by kernel_rfl) rfl (opensF_one oI rfl (by kernel_rfl)))) (fun _ => rfl)
theorem oPort : Opens Try.prog 59 k59 PortOk :=
  opens_struct (fun x : S59 => (x.f0, x.f1, x.f2, x.f3, x.f4, x.f5)) (fun x => ⟨x.1, x.2.1, x.2.2.1, x.2.2.2.1, x.2.2.2.2.1, x.2.2.2.2.2⟩) Try.underlying59 (by kernel_rfl)
    (opensF_cons oI rfl (by kernel_rfl) rfl (opensF_cons oI rfl (by kernel_rfl) rfl (opensF_cons oI rfl (by kernel_rfl) rfl (opensF_cons oI rfl (by kernel_rfl) rfl (opensF_cons oI rfl (by kernel_rfl) rfl (opensF_one oI rfl (by kernel_rfl))))))) (fun _ => rfl)
theorem oLink : Opens Try.prog 61 k61 LinkOk :=
  opens_struct (fun x : S61 => (x.f0, x.f1, x.f2)) (fun x => ⟨x.1, x.2.1, x.2.2⟩) Try.underlying61 (by kernel_rfl)
    (opensF_cons oI rfl (by kernel_rfl) rfl (opensF_cons oIs rfl (by kernel_rfl) rfl (opensF_one oI rfl (by kernel_rfl)))) (fun _ => rfl)
theorem oCfg : Opens Try.prog 29 k29 CfgOk :=
  opens_struct (fun x : S29 => (x.f0, x.f1, x.f2, x.f3, x.f4, x.f5, x.f6, x.f7, x.f8, x.f9, x.f10, x.f11)) (fun x => ⟨x.1, x.2.1, x.2.2.1, x.2.2.2.1, x.2.2.2.2.1, x.2.2.2.2.2.1, x.2.2.2.2.2.2.1, x.2.2.2.2.2.2.2.1, x.2.2.2.2.2.2.2.2.1, x.2.2.2.2.2.2.2.2.2.1, x.2.2.2.2.2.2.2.2.2.2.1, x.2.2.2.2.2.2.2.2.2.2.2⟩) Try.underlying29 (by kernel_rfl)
    (opensF_cons oI rfl (by kernel_rfl) rfl (opensF_cons oIs rfl (by kernel_rfl) rfl (opensF_cons oI rfl (by kernel_rfl) rfl (opensF_cons oI rfl (by kernel_rfl) rfl (opensF_cons oI rfl (by kernel_rfl) rfl (opensF_cons oI rfl (by kernel_rfl) rfl (opensF_cons oI rfl (by kernel_rfl) rfl (opensF_cons oI rfl (by kernel_rfl) rfl
    (opensF_cons (opens_slice Try.underlying24 oPart (by kernel_rfl)) rfl (by kernel_rfl) rfl (opensF_cons (opens_slice Try.underlying25 oIs (by kernel_rfl)) rfl (by kernel_rfl) rfl (opensF_cons (opens_slice Try.underlying26 oPort (by kernel_rfl)) rfl (by kernel_rfl) rfl
    (opensF_one (opens_slice Try.underlying27 oLink (by kernel_rfl)) rfl (by kernel_rfl))))))))))))) (fun _ => rfl)
/-- An argument that is a configuration, opened. -/
theorem open_cfg {H : Type} {enc : TypeId × Value → H} {W : World} {base : Nat} {sp : Nat → Bool} {held : Bool} {v : Value} {d : DataW H} {p : List MemPlace} (h : DataW.Trod enc Try.prog W base sp held 29 v d p) :
    ∃ (C : S29) (A1 A8 A9 A10 A11 : Option Addr) (c1 c8 c9 c10 c11 : Nat), v.cells.toList = [.int .i64 C.f0, .slice A1 C.f1.length c1, .int .i64 C.f2, .int .i64 C.f3, .int .i64 C.f4, .int .i64 C.f5, .int .i64 C.f6, .int .i64 C.f7, .slice A8 C.f8.length c8, .slice A9 C.f9.length c9, .slice A10 C.f10.length c10, .slice A11 C.f11.length c11] ∧ CfgIn W C A1 A8 A9 A10 A11 c1 c8 c9 c10 c11 ∧ CfgOk C := by
  obtain ⟨C, hK, hG⟩ := oCfg.trod h
  obtain ⟨A1, c1, A8, c8, A9, c9, A10, c10, A11, c11, e, l1, g1, l8, g8, l9, g9, l10, g10, l11, g11⟩ := k29_open hK
  exact ⟨C, A1, A8, A9, A10, A11, c1, c8, c9, c10, c11, e, ⟨⟨l1, g1⟩, ⟨l8, g8⟩, ⟨l9, g9⟩, ⟨l10, g10⟩, l11, g11⟩, hG⟩
end Go.Proofs.Ytehbabkgaecoaaa
