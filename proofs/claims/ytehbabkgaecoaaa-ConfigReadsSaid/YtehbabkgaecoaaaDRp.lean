/- The document's Decode and the program's come to the same (plain). -/
import Derived.Test.YtehbabkgaecoaaaBk
namespace Go.Proofs.Ytehbabkgaecoaaa
set_option linter.unusedVariables false
set_option linter.unusedSimpArgs false
open Go.RowKit Go.Proofs.YtehbabkgaecoaaaW.PrintWords

section
variable {α β : Type}
/-- The program's reader p and the document's reader q: alike where either comes through; p eats m numbers at least. -/
structure Sm (p q : List Int → Bool → α × List Int × Bool) (m : Nat) : Prop where
  sp : ∀ r f, (p r f).2.2 = true → f = true ∧ (p r f).2.1.length + 4 * m ≤ r.length
  sq : ∀ r f, (q r f).2.2 = true → f = true
  pq : ∀ r, (p r true).2.2 = true → q r true = p r true
  qp : ∀ r, (q r true).2.2 = true → p r true = q r true
theorem Sm.weak {p q : List Int → Bool → α × List Int × Bool} {m n : Nat} (h : Sm p q m) (hn : n ≤ m) : Sm p q n :=
  ⟨fun r f hf => ⟨(h.sp r f hf).1, by have := (h.sp r f hf).2; omega⟩, h.sq, h.pq, h.qp⟩
theorem Sm.seq {p q : List Int → Bool → α × List Int × Bool} {p' q' : List Int → Bool → β × List Int × Bool} {m n : Nat} (h : Sm p q m) (h' : Sm p' q' n) : Sm (rseq p p') (rseq q q') (m + n) := by
  refine ⟨fun r f hf => ?_, fun r f hf => h.sq r f (h'.sq _ _ hf), fun r hf => ?_, fun r hf => ?_⟩
  · obtain ⟨a, b⟩ := h'.sp _ _ hf
    obtain ⟨c, d⟩ := h.sp r f a
    refine ⟨c, ?_⟩
    show (p' (p r f).2.1 (p r f).2.2).2.1.length + 4 * (m + n) ≤ r.length
    omega
  · have h1 : (p r true).2.2 = true := (h'.sp _ _ hf).1
    have h2 := h.pq r h1
    unfold rseq at hf ⊢
    try dsimp only at hf ⊢
    rw [h2, h1]
    rw [h1] at hf
    rw [h'.pq _ hf]
  · have h1 : (q r true).2.2 = true := h'.sq _ _ hf
    have h2 := h.qp r h1
    unfold rseq at hf ⊢
    try dsimp only at hf ⊢
    rw [h2, h1]
    rw [h1] at hf
    rw [h'.qp _ hf]
theorem Sm.iso {p q : List Int → Bool → α × List Int × Bool} {m : Nat} (h : Sm p q m) (g : α → β) : Sm (fun r f => (g (p r f).1, (p r f).2)) (fun r f => (g (q r f).1, (q r f).2)) m :=
  ⟨fun r f hf => h.sp r f hf, fun r f hf => h.sq r f hf, fun r hf => by rw [h.pq r hf], fun r hf => by rw [h.qp r hf]⟩
theorem next_false (r : List Int) : nextD r false = (0, r, false) := by unfold nextD; rw [if_neg]; simp
theorem sm_next : Sm nextD nextD 1 := by
  refine ⟨fun r f hf => ?_, fun r f hf => ?_, fun _ _ => rfl, fun _ _ => rfl⟩
  · cases f
    · rw [next_false] at hf; cases hf
    · refine ⟨rfl, ?_⟩
      by_cases hl : 4 ≤ r.length
      · have e : nextD r true = (sg32 (be32 r), r.drop 4, true) := by unfold nextD; rw [if_pos]; simpa using hl
        rw [e]; simp; omega
      · have e : nextD r true = (0, r, false) := by unfold nextD; rw [if_neg]; simpa using hl
        rw [e] at hf; cases hf
  · cases f
    · rw [next_false] at hf; cases hf
    · rfl
/-- The document's length of a list, and its loop. -/
def leadR (each : Nat) (r : List Int) (f : Bool) : Int × List Int × Bool :=
  if (nextD r f).1 < 0 ∨ 65535 < (nextD r f).1 ∨ ((nextD r f).2.1.length : Int) < 4 * each * (nextD r f).1 then (0, (nextD r f).2.1, false) else nextD r f
def loopR (q : List Int → Bool → α × List Int × Bool) : Nat → List α → List Int → Bool → List α × List Int × Bool
  | 0, a, r, f => (a, r, f)
  | k + 1, a, r, f => loopR q k (a ++ [(q r f).1]) (q r f).2.1 (q r f).2.2
def manyR (each : Nat) (q : List Int → Bool → α × List Int × Bool) (r : List Int) (f : Bool) : List α × List Int × Bool :=
  loopR q (leadR each r f).1.toNat [] (leadR each r f).2.1 (leadR each r f).2.2
theorem loopR_stay {q : List Int → Bool → α × List Int × Bool} (h : ∀ r f, (q r f).2.2 = true → f = true) : ∀ (k : Nat) (a : List α) (r : List Int) (f : Bool), (loopR q k a r f).2.2 = true → f = true
  | 0, _, _, _, hf => hf
  | k + 1, _, r, f, hf => h r f (loopR_stay h k _ _ _ hf)
theorem loopD_stay' {each : List α → List Int → Bool → List α × List Int × Bool} : ∀ (k : Nat) (a : List α) (r : List Int) (f : Bool), (loopD each k a r f).2.2 = true → f = true
  | 0, _, _, _, hf => hf
  | k + 1, a, r, f, hf => by
    unfold loopD at hf
    split at hf
    · assumption
    · exact hf
theorem loopD_one (each : List α → List Int → Bool → List α × List Int × Bool) (k : Nat) (a : List α) (r : List Int) : loopD each (k + 1) a r true = loopD each k (each a r true).1 (each a r true).2.1 (each a r true).2.2 := by
  show (if true = true then _ else _) = _
  rw [if_pos rfl]
theorem Sm.loop {p q : List Int → Bool → α × List Int × Bool} {m : Nat} (h : Sm p q m) : ∀ (k : Nat) (a : List α) (r : List Int),
    ((loopD (app1 p) k a r true).2.2 = true → (loopD (app1 p) k a r true).2.1.length + 4 * m * k ≤ r.length ∧ loopR q k a r true = loopD (app1 p) k a r true) ∧
    ((loopR q k a r true).2.2 = true → loopD (app1 p) k a r true = loopR q k a r true)
  | 0, a, r => ⟨fun _ => ⟨by show r.length + 4 * m * 0 ≤ r.length; omega, rfl⟩, fun _ => rfl⟩
  | k + 1, a, r => by
    have e : loopD (app1 p) (k + 1) a r true = loopD (app1 p) k (a ++ [(p r true).1]) (p r true).2.1 (p r true).2.2 := loopD_one _ _ _ _
    have e' : loopR q (k + 1) a r true = loopR q k (a ++ [(q r true).1]) (q r true).2.1 (q r true).2.2 := rfl
    rw [e, e']
    refine ⟨fun hf => ?_, fun hf => ?_⟩
    · have h1 := loopD_stay' _ _ _ _ hf
      have h2 := h.pq r h1
      have h3 := (h.sp r true h1).2
      rw [h1] at hf ⊢
      rw [h2, h1]
      obtain ⟨a1, a2⟩ := (Sm.loop h k (a ++ [(p r true).1]) (p r true).2.1).1 hf
      refine ⟨?_, a2⟩
      rw [Nat.mul_succ]
      omega
    · have h1 := loopR_stay h.sq _ _ _ _ hf
      have h2 := h.qp r h1
      rw [h1] at hf ⊢
      rw [h2, h1]
      exact (Sm.loop h k (a ++ [(q r true).1]) (q r true).2.1).2 hf
theorem leadR_ok {each : Nat} {r : List Int} (h : ¬ ((nextD r true).1 < 0 ∨ 65535 < (nextD r true).1 ∨ ((nextD r true).2.1.length : Int) < 4 * each * (nextD r true).1)) : leadR each r true = nextD r true := by
  unfold leadR; rw [if_neg h]
theorem Sm.many {p q : List Int → Bool → α × List Int × Bool} {m : Nat} (h : Sm p q m) : Sm (fun r f => manyD (app1 p) [] r f) (manyR m q) 1 := by
  have key : ∀ r f, (manyD (app1 p) ([] : List α) r f).2.2 = true → f = true ∧ (nextD r f).2.2 = true ∧ 0 ≤ (nextD r f).1 ∧ (nextD r f).1 ≤ 65535 := by
    intro r f hf
    have h1 := loopD_stay' _ _ _ _ hf
    simp only [Bool.and_eq_true, decide_eq_true_eq] at h1
    exact ⟨(sm_next.sp r f h1.1.1).1, h1.1.1, h1.1.2, h1.2⟩
  have e : ∀ r, (nextD r true).2.2 = true → 0 ≤ (nextD r true).1 → (nextD r true).1 ≤ 65535 → manyD (app1 p) ([] : List α) r true = loopD (app1 p) (nextD r true).1.toNat [] (nextD r true).2.1 true := by
    intro r h1 h2 h3
    unfold manyD
    rw [h1, decide_eq_true h2, decide_eq_true h3]; rfl
  refine ⟨fun r f hf => ?_, fun r f hf => ?_, fun r hf => ?_, fun r hf => ?_⟩
  · obtain ⟨rfl, h1, h2, h3⟩ := key r f hf
    refine ⟨rfl, ?_⟩
    have h4 := (sm_next.sp r true h1).2
    rw [e r h1 h2 h3] at hf ⊢
    have h5 := ((h.loop _ [] _).1 hf).1
    omega
  · have h1 := loopR_stay h.sq _ _ _ _ hf
    unfold leadR at h1
    split at h1
    · cases h1
    · exact (sm_next.sp r f h1).1
  · obtain ⟨-, h1, h2, h3⟩ := key r true hf
    rw [e r h1 h2 h3] at hf ⊢
    obtain ⟨a1, a2⟩ := (h.loop _ [] _).1 hf
    have hlt : ¬ ((nextD r true).1 < 0 ∨ 65535 < (nextD r true).1 ∨ ((nextD r true).2.1.length : Int) < 4 * m * (nextD r true).1) := by
      obtain ⟨k, hk⟩ := Int.eq_ofNat_of_zero_le h2
      rw [hk] at a1 h3 ⊢
      rw [Int.toNat_natCast] at a1
      have : 4 * m * k ≤ (nextD r true).2.1.length := by omega
      have : ((4 * m * k : Nat) : Int) ≤ ((nextD r true).2.1.length : Int) := by exact_mod_cast this
      push_cast at this
      omega
    unfold manyR
    rw [leadR_ok hlt, h1]
    exact a2
  · have h1 := loopR_stay h.sq _ _ _ _ hf
    by_cases hlt : (nextD r true).1 < 0 ∨ 65535 < (nextD r true).1 ∨ ((nextD r true).2.1.length : Int) < 4 * m * (nextD r true).1
    · unfold leadR at h1
      rw [if_pos hlt] at h1
      cases h1
    · rw [leadR_ok hlt] at h1
      have h2 : 0 ≤ (nextD r true).1 := by omega
      have h3 : (nextD r true).1 ≤ 65535 := by omega
      rw [e r h1 h2 h3]
      unfold manyR at hf ⊢
      rw [leadR_ok hlt, h1] at hf ⊢
      exact (h.loop _ [] _).2 hf
end
/-- The document's readers. -/
def listR (r : List Int) (f : Bool) : List Int × List Int × Bool := manyR 1 nextD r f
def partR (r : List Int) (f : Bool) : S57 × List Int × Bool :=
  let n1 := nextD r f; let n2 := nextD n1.2.1 n1.2.2; let n3 := nextD n2.2.1 n2.2.2
  (⟨n1.1, n2.1, n3.1⟩, n3.2)
def portR (r : List Int) (f : Bool) : S59 × List Int × Bool :=
  let n1 := nextD r f; let n2 := nextD n1.2.1 n1.2.2; let n3 := nextD n2.2.1 n2.2.2; let n4 := nextD n3.2.1 n3.2.2; let n5 := nextD n4.2.1 n4.2.2; let n6 := nextD n5.2.1 n5.2.2
  (⟨n1.1, n2.1, n3.1, n4.1, n5.1, n6.1⟩, n6.2)
def linkR (r : List Int) (f : Bool) : S61 × List Int × Bool :=
  let n1 := nextD r f; let n2 := nextD n1.2.1 n1.2.2; let l3 := listR n2.2.1 n2.2.2
  (⟨n1.1, l3.1, n2.1⟩, l3.2)
theorem sm_list : Sm listD listR 1 := sm_next.many
theorem sm_part : Sm (fun r f => manyD eachP [] r f) (manyR 3 partR) 1 :=
  ((sm_next.seq (sm_next.seq sm_next)).iso (fun x => (⟨x.1, x.2.1, x.2.2⟩ : S57))).many
theorem sm_port : Sm (fun r f => manyD eachQ [] r f) (manyR 6 portR) 1 :=
  ((sm_next.seq (sm_next.seq (sm_next.seq (sm_next.seq (sm_next.seq sm_next))))).iso (fun x => (⟨x.1, x.2.1, x.2.2.1, x.2.2.2.1, x.2.2.2.2.1, x.2.2.2.2.2⟩ : S59))).many
theorem sm_win : Sm (fun r f => manyD eachW [] r f) (manyR 1 listR) 1 := sm_list.many
theorem sm_link : Sm (fun r f => manyD eachK [] r f) (manyR 3 linkR) 1 :=
  ((sm_next.seq (sm_next.seq sm_list)).iso (fun x => (⟨x.1, x.2.2, x.2.1⟩ : S61))).many
theorem sm_nums : ∀ k : Nat, Sm (numsD k) (numsD k) k
  | 0 => ⟨fun _ _ h => ⟨h, by show _ + 4 * 0 ≤ _; exact Nat.le_refl _⟩, fun _ _ h => h, fun _ _ => rfl, fun _ _ => rfl⟩
  | k + 1 => ⟨fun r f h => by
      obtain ⟨a, b⟩ := sm_next.sp _ _ (show (nextD (numsD k r f).2.1 (numsD k r f).2.2).2.2 = true from h)
      obtain ⟨c, d⟩ := (sm_nums k).sp r f a
      refine ⟨c, ?_⟩
      show (nextD (numsD k r f).2.1 (numsD k r f).2.2).2.1.length + 4 * (k + 1) ≤ r.length
      omega, fun r f h => ((sm_nums k).sp r f (sm_next.sp _ _ (show (nextD (numsD k r f).2.1 (numsD k r f).2.2).2.2 = true from h)).1).1, fun _ _ => rfl, fun _ _ => rfl⟩
/-- What the document's Decode makes of the bytes behind the head. -/
def bodyQ (r : List Int) (f : Bool) : (List Int × List Int × List (S57) × List (List Int) × List (S59) × List (S61)) × List Int × Bool :=
  rseq (numsD 7) (rseq listR (rseq (manyR 3 partR) (rseq (manyR 1 listR) (rseq (manyR 6 portR) (manyR 3 linkR))))) r f
theorem sm_body : Sm bodyR bodyQ 12 :=
  (sm_nums 7).seq (sm_list.seq (sm_part.seq (sm_win.seq (sm_port.seq sm_link))))
/-- What the document's Decode tells. -/
def decQ (b : List Int) : S29 × Int :=
  if b.take 4 = [82, 79, 84, 65] then (if (bodyQ (b.drop 4) true).2.2 = true ∧ (bodyQ (b.drop 4) true).2.1 = [] then (ofR (bodyQ (b.drop 4) true).1, 0) else (noCfg, 20)) else (noCfg, 20)
theorem decQ_eq (b : List Int) : decQ b = decD b := by
  unfold decQ decD
  rw [body_eq]
  by_cases h : (bodyR (b.drop 4) true).2.2 = true
  · rw [sm_body.pq _ h]
  · by_cases h' : (bodyQ (b.drop 4) true).2.2 = true
    · rw [sm_body.qp _ h'] at h
      exact absurd h' h
    · by_cases ht : b.take 4 = [82, 79, 84, 65]
      · rw [if_pos ht, if_pos ht, if_neg (fun e => h' e.1), if_neg (fun e => h e.1)]
      · rw [if_neg ht, if_neg ht]
end Go.Proofs.Ytehbabkgaecoaaa
