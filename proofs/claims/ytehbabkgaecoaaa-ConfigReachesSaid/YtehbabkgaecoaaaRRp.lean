/- Reached by so many steps at most: as many as there are partitions are enough. -/
import Derived.Test.YtehbabkgaecoaaaCL
namespace Go.Proofs.Ytehbabkgaecoaaa
set_option linter.unusedVariables false
set_option linter.unusedSimpArgs false
open Go.RowKit Go.Shelf Go.Proofs.YtehbabkgaecoaaaW.PrintWords

def Rk (nx : List (List Int)) (i : Nat) : Nat → Nat → Prop
  | 0, j => j = i
  | r + 1, j => Rk nx i r j ∨ ∃ p, Rk nx i r p ∧ ∃ q ∈ nx.getD p [], q.toNat = j
theorem Rk.mono {nx : List (List Int)} {i r j : Nat} (h : Rk nx i r j) : ∀ s, r ≤ s → Rk nx i s j := by
  intro s hs
  induction s with
  | zero => obtain rfl : r = 0 := by omega
            exact h
  | succ s ih =>
    by_cases he : r = s + 1
    · subst he; exact h
    · exact .inl (ih (by omega))
theorem Rk.rt {nx : List (List Int)} {i : Nat} : ∀ {r j : Nat}, Rk nx i r j → Rt nx i j
  | 0, j, h => by cases h; exact .refl
  | r + 1, j, .inl h => Rk.rt h
  | r + 1, j, .inr ⟨p, hp, q, hq, he⟩ => by subst he; exact .step (Rk.rt hp) hq
theorem rk_bd {nx : List (List Int)} {P i : Nat} (hb : ∀ row ∈ nx, ∀ q ∈ row, 0 ≤ q ∧ q < (P : Int)) (hi : i < P) : ∀ r j, Rk nx i r j → j < P := by
  intro r
  induction r with
  | zero => intro j h; cases h; exact hi
  | succ r ih =>
    intro j h
    rcases h with h | ⟨p, hp, q, hq, he⟩
    · exact ih j h
    · rw [List.getD_eq_getElem?_getD] at hq
      cases hg : nx[p]? with
      | none => rw [hg] at hq; simp at hq
      | some row =>
        rw [hg] at hq
        have := hb row (List.mem_of_getElem? hg) q hq
        omega
open Classical in
/-- As many steps as there are partitions are enough. -/
theorem rk_all {nx : List (List Int)} {P i : Nat} (hb : ∀ row ∈ nx, ∀ q ∈ row, 0 ≤ q ∧ q < (P : Int)) (hi : i < P) {j : Nat} (h : Rt nx i j) : Rk nx i P j := by
  have hcl : ∀ r, (∀ k, Rk nx i (r + 1) k → Rk nx i r k) → ∀ k, Rt nx i k → Rk nx i r k := by
    intro r hr k hk
    induction hk with
    | refl => exact Rk.mono (r := 0) rfl _ (by omega)
    | step _ hq ih => exact hr _ (.inr ⟨_, ih, _, hq, rfl⟩)
  have key : ∀ r, (∃ s, s ≤ r ∧ ∀ k, Rk nx i (s + 1) k → Rk nx i s k) ∨ r + 1 ≤ ((List.range P).filter (fun k => decide (Rk nx i r k))).length := by
    intro r
    induction r with
    | zero =>
      right
      have : i ∈ (List.range P).filter (fun k => decide (Rk nx i 0 k)) := List.mem_filter.2 ⟨List.mem_range.2 hi, decide_eq_true rfl⟩
      exact List.length_pos_of_mem this
    | succ r ih =>
      rcases ih with ⟨s, hs, hc⟩ | hl
      · exact .inl ⟨s, by omega, hc⟩
      · by_cases hc : ∀ k, Rk nx i (r + 1) k → Rk nx i r k
        · exact .inl ⟨r, by omega, hc⟩
        · right
          obtain ⟨k, hk⟩ := Classical.not_forall.1 hc
          have hk1 : Rk nx i (r + 1) k := Classical.byContradiction fun h => hk fun h' => absurd h' h
          have hk2 : ¬ Rk nx i r k := fun h => hk fun _ => h
          have hsub : ∀ l : List Nat, (l.filter (fun k => decide (Rk nx i r k))).length + (if k ∈ l then 1 else 0) ≤ (l.filter (fun k => decide (Rk nx i (r + 1) k))).length := by
            intro l
            induction l with
            | nil => simp
            | cons a l ih =>
              by_cases ha : Rk nx i r a
              · rw [List.filter_cons_of_pos (p := fun k => decide (Rk nx i r k)) (a := a) (l := l) (decide_eq_true ha), List.filter_cons_of_pos (p := fun k => decide (Rk nx i (r + 1) k)) (a := a) (l := l) (decide_eq_true (Rk.mono ha _ (by omega)))]
                have hne : k ≠ a := fun e => hk2 (e ▸ ha)
                simp only [List.length_cons, List.mem_cons, hne, false_or]
                omega
              · rw [List.filter_cons_of_neg (p := fun k => decide (Rk nx i r k)) (a := a) (l := l) (by simpa using ha)]
                by_cases ha2 : Rk nx i (r + 1) a
                · rw [List.filter_cons_of_pos (p := fun k => decide (Rk nx i (r + 1) k)) (a := a) (l := l) (decide_eq_true ha2), List.length_cons]
                  split
                  · split at ih <;> omega
                  · split at ih <;> omega
                · rw [List.filter_cons_of_neg (p := fun k => decide (Rk nx i (r + 1) k)) (a := a) (l := l) (by simpa using ha2)]
                  have hne : k ≠ a := fun e => ha2 (e ▸ hk1)
                  simp only [List.mem_cons, hne, false_or]
                  exact ih
          have := hsub (List.range P)
          rw [if_pos (List.mem_range.2 (rk_bd hb hi _ _ hk1))] at this
          omega
  rcases key P with ⟨s, hs, hc⟩ | hl
  · exact Rk.mono (hcl s hc j h) _ hs
  · have := List.length_filter_le (fun k => decide (Rk nx i P k)) (List.range P)
    rw [List.length_range] at this
    omega
/-- Whose links they are. -/
theorem nx_from {C : S29} {p : Nat} {q : Int} : ∀ (L : List S61) (nx : List (List Int)), nx.length = C.f8.length → q ∈ (L.foldl (nxStep C) nx).getD p [] → q ∈ nx.getD p [] ∨ ∃ x ∈ L, okL C x = true ∧ fromL C x = p ∧ q ∈ toL C x := by
  intro L
  induction L with
  | nil => intro nx _ h; exact .inl h
  | cons x L ih =>
    intro nx hl h
    have hl2 : (nxStep C nx x).length = C.f8.length := by unfold nxStep; split <;> simp [hl]
    rcases ih _ hl2 h with h1 | ⟨y, hy, h1⟩
    · unfold nxStep at h1
      split at h1
      · rename_i ho
        have hb := part_bd (show (partW C x.f0).2 = true by unfold okL at ho; rw [Bool.and_eq_true] at ho; exact ho.1)
        rw [getD_set' (show fromL C x < nx.length by unfold fromL; omega)] at h1
        split at h1
        · rename_i he
          rcases List.mem_append.1 h1 with h2 | h2
          · rw [he]; exact .inl h2
          · exact .inr ⟨x, by simp, ho, he.symm, h2⟩
        · exact .inl h1
      · exact .inl h1
    · exact .inr ⟨y, by simp [hy], h1⟩
/-- A table that is sound, and has all that S has. -/
structure Ref (C : S29) (S : Nat → Nat → Prop) (M : List (List Bool)) : Prop where
  snd : ∀ i, i < C.f8.length → ∀ j, (M.getD i []).getD j false = true → Rt (nxOf C C.f11) i j
  cmp : ∀ i, i < C.f8.length → ∀ j, S i j → (M.getD i []).getD j false = true
theorem Ref.weak {C : S29} {S T : Nat → Nat → Prop} {M : List (List Bool)} (h : Ref C S M) (ht : ∀ i j, i < C.f8.length → T i j → S i j) : Ref C T M := ⟨h.snd, fun i hi j hj => h.cmp i hi j (ht i j hi hj)⟩
theorem getD_set2 {M : List (List Bool)} {i t i' j : Nat} {b : Bool} (hi : i < M.length) (ht : t < (M.getD i []).length) : ((M.set i ((M.getD i []).set t b)).getD i' []).getD j false = if i' = i ∧ j = t then b else (M.getD i' []).getD j false := by
  rw [getD_set' hi]
  by_cases h1 : i' = i
  · subst h1
    rw [if_pos rfl, getD_set' ht]
    by_cases h2 : j = t
    · rw [if_pos h2, if_pos ⟨rfl, h2⟩]
    · rw [if_neg h2, if_neg (fun h => h2 h.2)]
  · rw [if_neg h1, if_neg (fun h => h1 h.1)]
/-- One step: what is behind a link is as reached as what is ahead of it. -/
theorem Ref.step {C : S29} {S : Nat → Nat → Prop} {M : List (List Bool)} (h : Ref C S M) {i f t : Nat} (hi : i < C.f8.length) (hM : i < M.length) (ht : t < (M.getD i []).length) {q : Int} (hq : q ∈ (nxOf C C.f11).getD f []) (hqt : q.toNat = t) :
    Ref C (fun a b => S a b ∨ a = i ∧ b = t ∧ S i f) (M.set i ((M.getD i []).set t ((M.getD i []).getD t false || (M.getD i []).getD f false))) := by
  refine ⟨fun a ha j hj => ?_, fun a ha j hj => ?_⟩
  · rw [getD_set2 hM ht] at hj
    split at hj
    · rename_i hc
      obtain ⟨rfl, rfl⟩ := hc
      rw [Bool.or_eq_true] at hj
      rcases hj with hj | hj
      · exact h.snd a ha j hj
      · rw [← hqt]; exact .step (h.snd a ha f hj) hq
    · exact h.snd a ha j hj
  · rw [getD_set2 hM ht]
    split
    · rename_i hc
      obtain ⟨rfl, rfl⟩ := hc
      rw [Bool.or_eq_true]
      rcases hj with hj | ⟨_, _, hj⟩
      · exact .inl (h.cmp a ha j hj)
      · exact .inr (h.cmp a ha f hj)
    · rename_i hc
      rcases hj with hj | ⟨h1, h2, _⟩
      · exact h.cmp a ha j hj
      · exact absurd ⟨h1, h2⟩ hc
end Go.Proofs.Ytehbabkgaecoaaa
