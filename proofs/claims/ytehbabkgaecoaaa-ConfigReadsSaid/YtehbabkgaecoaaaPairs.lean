/- The iterator 'pairs': what it hands out. -/
import Derived.RangeFuncNested
import Derived.RangeFuncBound
import Derived.RangeFuncCalls
import Derived.RangeFuncLeaves
import Derived.RangeFuncBox
import Derived.Shelf.Abstract
import Derived.Shelf.RegionOpen
import Derived.OwnWalkIn
import Derived.TacticsInMore
import Derived.LoopNIn
import Derived.LoopIn
import Derived.Test.YtehbabkgaecoaaaCkD
namespace Go.Proofs.Ytehbabkgaecoaaa
set_option linter.unusedVariables false
set_option linter.unusedSimpArgs false
open Go.RowKit Go.Shelf Go.Proofs.YtehbabkgaecoaaaW.PrintWords
attribute [local go_sem] Oper.semAt_some

section
variable {P : Program} {b : Frame} {a : Act} {k : List Item} {cs : List Frame} {w : World} {Q : Exit → Act → World → Prop} {F : Fence} {n : Nat}
theorem stepR_scope {c : Code} : step P (lone (b.atR a (.code (.scope c) :: k)) cs w) = .next (lone (b.atR a (.code c :: .inScope c :: k)) cs w) :=
  step_lone_go (by simp [stepG, stepG.exec, Frame.atR])
theorem stepR_inScope {c : Code} : step P (lone (b.atR a (.inScope c :: k)) cs w) = .next (lone (b.atR a k) cs w) :=
  step_lone_go (by simp [stepG, stepG.exec, Frame.atR])
/-- A scope, within a fence: none of its gotos is taken. -/
theorem wpIn_scope {c : Code} (h : c.wpIn F n P (Exit.noGoto Q) a w) : (Code.scope c).wpIn F n P Q a w := by
  intro b k cs hro hb hr
  have h0 : (lone (b.atR a (.code (.scope c) :: k)) cs w).fenced P F := fenced_calm hb hr rfl
  obtain ⟨e, a₁, w₁, hq, harr⟩ := h b (.inScope c :: k) cs hro hb hr
  cases e with
  | normal => exact ⟨.normal, a₁, w₁, hq, .head h0 stepR_scope (StepsIn.trans harr (.one (fenced_calm hb hr rfl) stepR_inScope))⟩
  | exit id => exact ⟨_, a₁, w₁, hq, .of_steps (.one h0 stepR_scope) ⟨fun k' hk => harr.1 k' (by simp [exitTo, hk]), fun hr hk => harr.2 hr (by simp [exitTo, hk])⟩⟩
  | goto l => exact hq.elim
  | ret => exact ⟨_, a₁, w₁, hq, .of_steps (.one h0 stepR_scope) harr⟩
  | panic ch => exact ⟨_, a₁, w₁, hq, .of_steps (.one h0 stepR_scope) harr⟩
  | outgrown => exact ⟨_, a₁, w₁, hq, .of_steps (.one h0 stepR_scope) harr⟩
end
/-- Two numbers below n, the first one (the second component) below the other. -/
abbrev PR (n : Nat) : Type := (k : Fin n) × Fin k.1
def prow {n : Nat} (k : Fin n) : List (PR n) := (List.finRange k.1).map fun i => ⟨k, i⟩
def prs (n : Nat) : List (PR n) := (List.finRange n).flatMap prow
def pTo (n k i : Nat) : List (PR n) := ((List.finRange n).take k).flatMap prow ++ (if h : k < n then (prow ⟨k, h⟩).take i else [])
theorem pTo_step {n k i : Nat} (hk : k < n) (hi : i < k) : pTo n k (i + 1) = pTo n k i ++ [⟨⟨k, hk⟩, ⟨i, hi⟩⟩] := by
  unfold pTo
  rw [dif_pos hk, dif_pos hk, List.append_assoc]
  congr 1
  rw [List.take_add_one]
  simp [prow, hi]
theorem pTo_row {n k : Nat} (hk : k < n) : pTo n k k = pTo n (k + 1) 0 := by
  unfold pTo
  rw [dif_pos hk, List.take_of_length_le (l := prow ⟨k, hk⟩) (by simp [prow]), List.take_add_one]
  simp [hk]
theorem pTo_zero (n : Nat) : pTo n 0 0 = [] := by unfold pTo; simp
theorem pTo_end (n : Nat) : pTo n n 0 = prs n := by
  unfold pTo prs
  rw [List.take_of_length_le (by simp)]; simp
theorem pTo_mono (n k : Nat) : pTo n k 0 <+: prs n := by
  unfold pTo prs
  simp only [List.take_zero, dite_eq_ite, ite_self, List.append_nil]
  conv => rhs; rw [← List.take_append_drop k (List.finRange n), List.flatMap_append]
  exact List.prefix_append _ _
theorem pTo_prefix {n k i : Nat} (hk : k < n) (_hi : i ≤ k) : pTo n k i <+: prs n := by
  refine List.IsPrefix.trans ?_ (pTo_mono n (k + 1))
  rw [← pTo_row hk]
  unfold pTo
  rw [dif_pos hk, dif_pos hk]
  exact (List.prefix_append_right_inj _).2 ((List.take_prefix_take_left (by omega)))

/-- A block lies as it lay. -/
def KB (b : Nat) (A B : World) : Prop := B.heap[b]? = A.heap[b]?
theorem KB.refl (b : Nat) (A : World) : KB b A A := rfl
theorem KB.trans {b : Nat} {A B C : World} (h : KB b A B) (k : KB b B C) : KB b A C := Eq.trans k h
theorem KB.cell {b : Nat} {A B : World} (h : KB b A B) (i : Nat) : B.cell? ⟨b, i, none⟩ = A.cell? ⟨b, i, none⟩ := World.cell?_of_block h
theorem KB.put {b : Nat} {w : World} (hb : b < w.heap.size) : ∀ (W : World) (l : Nat) (o o' : Obj), w.heap.size ≤ l → W.heap[l]? = some o → o.isCells = false → o.isWalk = false → KB b W (W.putObj l o') := fun W l o o' hl h _ _ =>
  have hlt := (Array.getElem?_eq_some_iff.1 h).1
  (grownBy_putObj' W l o').block b (by omega) (by intro e; cases e; omega)

set_option maxRecDepth 100000 in
set_option maxHeartbeats 2000000 in
theorem pairs1_in (F : Fence) (m : Nat) (hf : F.fn 78) (hro : F.round = none) (hm : 1 ≤ m) (l Bn n : Nat) (hn : n ≤ 4611686018427387904)
    (J Jx : List (PR n) → World → Prop)
    (hY : ∀ pre x W, J pre W → pre.length < (prs n).length → YieldAt F (m - 1) Try.prog l #[.int .i64 (x.2.1 : Nat), .int .i64 (x.1.1 : Nat)] W fun e W' =>
      (e = .returned (.bool true) ∧ J (pre ++ [x]) W' ∧ KB Bn W W') ∨ (e = .returned (.bool false) ∧ Jx (pre ++ [x]) W'))
    (W : World) (hcn : W.cell? ⟨Bn, 0, none⟩ = some (.int .i64 n)) (h0 : J [] W) :
    CallsIn F m Try.prog 78 #[.func (.yield l) #[] #[], .pointer (some ⟨Bn, 0, none⟩)] W fun e W' => (∃ v, e = .returned v) ∧
      ((∃ ys, ys = prs n ∧ J ys W') ∨ (∃ pre, pre <+: prs n ∧ Jx pre W')) := by
  refine callsIn_of_wp Try.func78 rfl hf ?_ hro
  simp only [Try.ntmps78, List.size_toArray, List.length_cons, List.length_nil, Nat.reduceAdd, Nat.reduceSub, Array.replicate_succ, Array.replicate_zero, List.push_toArray, List.append_toArray, List.nil_append, List.cons_append]
  gi_wp2
  refine wpIn_scope ?_
  refine wpIn_seq ?_
  refine wpIn_label ?_
  gi_wp2
  gi_loopw [3, 6] (fun _ i wr => ∃ k : Nat, k ≤ n ∧ i = .int .i64 k ∧ Hid (J (pTo n k 0) wr) ∧ Hid (KB Bn W wr)) (fun _ i _ => n - (intOf i).toNat)
  case atStart => exact ⟨0, by omega, rfl, Lib.hid (by rw [pTo_zero]; exact h0), Lib.hid (KB.refl _ _)⟩
  case round =>
    obtain ⟨k, hk, rfl, HJ, HK⟩ := hrel
    by_cases hlt : k < n
    · gi_wp2
      gi_loopw [4, 10] (fun _ i wr => ∃ j : Nat, j ≤ k ∧ i = .int .i64 j ∧ Hid (J (pTo n k j) wr) ∧ Hid (KB Bn W wr)) (fun _ i _ => k - (intOf i).toNat)
      case atStart => exact ⟨0, by omega, rfl, HJ, HK⟩
      case round =>
        clear HJ HK
        obtain ⟨j, hj, rfl, HJ, HK⟩ := hrel
        by_cases hlj : j < k
        · have hlen : (pTo n k j).length < (prs n).length := by
            have := (pTo_prefix (i := j + 1) hlt (by omega)).length_le
            rw [pTo_step hlt hlj] at this; simp at this; omega
          obtain ⟨fn, tmps, assign, body, hy, hR⟩ := hY _ ⟨⟨k, hlt⟩, ⟨j, hlj⟩⟩ _ HJ.out hlen
          clear hlen
          dsimp only at hy
          gi_wp2
          refine hR.mono ?_
          rintro e W3 (⟨rfl, hJ3, hk3⟩ | ⟨rfl, hJx3⟩)
          · gi_wp2
            go_roundw
            case rel => exact ⟨j + 1, by omega, by simp, Lib.hid (by rw [pTo_step hlt hlj]; exact hJ3), Lib.hid (HK.out.trans hk3)⟩
            case measure => simp [intOf]; omega
          · gi_wp2
            rw [Exit.noGoto_normal]
            go_end0
            exact ⟨⟨_, rfl⟩, .inr ⟨_, by rw [← pTo_step hlt hlj]; exact pTo_prefix hlt (by omega), hJx3⟩⟩
        · have hjk : j = k := by omega
          subst hjk
          gi_wp2
          go_roundw
          case rel => exact ⟨j + 1, by omega, by simp, Lib.hid (by rw [← pTo_row hlt]; exact HJ.out), HK⟩
          case measure => simp [intOf]; omega
    · have hkn : k = n := by omega
      subst hkn
      gi_wp2
      rw [Exit.noGoto_normal]
      go_end0
      exact ⟨⟨_, rfl⟩, .inl ⟨_, rfl, by rw [← pTo_end]; exact HJ.out⟩⟩
theorem pairs_stops (F : Fence) (m : Nat) (hf : F.fn 78) (hro : F.round = none) (hm : 1 ≤ m) (Bn n : Nat) (hn : n ≤ 4611686018427387904) (w : World) (hcn : w.cell? ⟨Bn, 0, none⟩ = some (.int .i64 n)) :
    SeqStopsK F m Try.prog 78 #[.pointer (some ⟨Bn, 0, none⟩)] (fun x : PR n => #[Value.int .i64 (x.2.1 : Nat), Value.int .i64 (x.1.1 : Nat)]) (KB Bn) (fun ys => ys = prs n) (fun pre => pre <+: prs n) (prs n).length w := fun l J Jx W hW _ _ hY h0 => by
  refine (pairs1_in F m hf hro hm l Bn n hn J Jx hY W ((hW.cell (p := ⟨Bn, 0, none⟩) (World.block_lt_of_cell? w _ hcn)).trans hcn) h0).mono ?_
  rintro e W' ⟨he, ⟨ys, rfl, hj⟩ | ⟨pre, hp, hj⟩⟩
  · exact ⟨he, .inl ⟨_, rfl, hj⟩⟩
  · exact ⟨he, .inr ⟨_, hp, hj⟩⟩
set_option maxHeartbeats 1000000 in
/-- 'pairs': the number is boxed; the function value captures the box. -/
theorem pairs_in (F : Fence) (m : Nat) (hf : F.fn 76) (hro : F.round = none) (n : Int) (w : World) :
    CallsIn F m Try.prog 76 #[.int .i64 n] w fun e w' => e = .returned (.func (.func 78) #[] #[.pointer (some ⟨w.heap.size, 0, none⟩)]) ∧ w' = w.alloc (.cells #[.int .i64 n] 3) := by
  refine callsIn_of_wp Try.func76 rfl hf ?_ hro
  simp only [Try.ntmps76, List.size_toArray, List.length_cons, List.length_nil, Nat.reduceAdd, Nat.reduceSub, Array.replicate_succ, Array.replicate_zero, List.push_toArray, List.append_toArray, List.nil_append, List.cons_append]
  gi_wp2
  go_ret
  exact ⟨rfl, rfl⟩
end Go.Proofs.Ytehbabkgaecoaaa
