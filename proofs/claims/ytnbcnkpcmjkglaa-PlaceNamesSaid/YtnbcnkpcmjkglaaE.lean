/- The library's Clone at spans. -/
import Derived.Test.YtnbcnkpcmjkglaaD
namespace Go.Proofs.Ytnbcnkpcmjkglaa
open Go.RowKit Go.Proofs.Ytnbcnkpcmjkglaa.Px Go.Proofs.YtnbcnkpcmjkglaaW.PrintWords Go.Proofs.YtnbcnkpcmjkglaaW.PrintLast

set_option maxRecDepth 100000 in
set_option maxHeartbeats 2000000 in
theorem clone_R (l : List S30) (A : Option Addr) (c : Nat) (W : World) (hC : Kd.C k30 W A l.length l) (hb : l.length * 16 ≤ 140737488355328) :
    Calls Try.prog 29 #[.slice A l.length c] W fun e W' => (∃ v, e = .returned v ∧ Kd.R k30 30 W' W.heap.size (fun _ => True) v l) ∧ Below W.heap.size W W' := by
  have hq : ∀ (n : Nat) w, (binOp .eql 22 (.slice A n c) (.slice none 0 0)).run Try.prog w = .ok (.bool A.isNone) w := fun n w => Lib.run_eql_slice_nil w 22 30 A n c 0 0 Try.underlying22
  have HC := Lib.hid hC
  go_enter Try.func29, Try.ntmps29
  cases A with
  | none =>
    have hl0 : l = [] := by
      rcases l with _ | ⟨x, l⟩
      · rfl
      · obtain ⟨ad, s, e, _⟩ := at_S HC.out 0 (by simp)
        cases e
    subst hl0
    go_wp2
    go_ret
    exact ⟨⟨_, rfl, Kd.R_nil _ _ _ _ _⟩, Below.refl _ _⟩
  | some a =>
    have HBA := Lib.hid (show Below W.heap.size W (W.alloc (Obj.cells #[] 30)) from (Below.refl _ _).alloc (Nat.le_refl _) _)
    have HE := Lib.hid (show Kd.R k30 30 (W.alloc (Obj.cells #[] 30)) W.heap.size (fun _ => True) (.slice (some ⟨W.heap.size, 0, none⟩) 0 0) [] from ⟨fun _ _ => trivial, OwnRow.lit W W.heap.size (Reps.none _ _) (Nat.le_refl _) (by simp)⟩)
    have HCA := Lib.hid (Kd.C_below HC.out HBA.out)
    go_wp2_with (first | (at_builtin; refine Kd.R_append_rows k30 (Rr := k30.K (W.alloc (Obj.cells #[] 30))) (w0 := W) W.heap.size rfl (.tmp 5) (.tmp 6) 22 30 (.agg #[.int .i64 0, .int .i64 0]) 16 rfl Try.underlying22 info30 rfl (by decide) (by omega) (.slice (some ⟨W.heap.size, 0, none⟩) 0 0) [] l (some a) l.length c (fun _ => True) (fun _ => False) rfl rfl HE.out HCA.out (fun x cs hk => by rw [k30_open hk]; exact k30_mkM _ _ _ _) (fun _ hk => hk.elim) (fun _ _ => trivial) HBA.out HBA.out.size (by simpa using hb) ?_; intro v5 W5 ho5 hb5 hg5 hat5; have HO5 := Lib.hid ho5; have HB5 := Lib.hid hb5; clear ho5 hb5 hg5 hat5))
    go_ret
    exact ⟨⟨_, rfl, HO5.out⟩, HB5.out⟩
end Go.Proofs.Ytnbcnkpcmjkglaa
