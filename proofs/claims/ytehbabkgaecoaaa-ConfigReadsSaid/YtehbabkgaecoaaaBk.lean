/- What Encode writes Decode reads, and the other way round (plain). -/
import Derived.Test.YtehbabkgaecoaaaDD
namespace Go.Proofs.Ytehbabkgaecoaaa
set_option linter.unusedVariables false
set_option linter.unusedSimpArgs false
open Go.RowKit Go.Proofs.YtehbabkgaecoaaaW.PrintWords

/-- A reader rd that undoes the writer g, of values of which G holds. -/
structure Rn {α : Type} (rd : List Int → Bool → α × List Int × Bool) (g : α → List Int) (G : α → Prop) : Prop where
  fwd : ∀ x r, G x → rd (g x ++ r) true = (x, r, true)
  stay : ∀ r f, (rd r f).2.2 = true → f = true
  bwd : ∀ r, (∀ y ∈ r, Byte y) → (rd r true).2.2 = true → G (rd r true).1 ∧ r = g (rd r true).1 ++ (rd r true).2.1
theorem inN_iff (n : Int) : inN n = true ↔ -2147483648 ≤ n ∧ n ≤ 2147483647 := by
  unfold inN
  rw [Bool.and_eq_true, decide_eq_true_eq, decide_eq_true_eq]
theorem rn_next : Rn nextD encN (fun n => inN n = true) := by
  refine ⟨fun x r h => ?_, fun r f h => ?_, fun r hb h => ?_⟩
  · rw [inN_iff] at h
    have e : nextD (encN x ++ r) true = (sg32 (be32 (encN x ++ r)), (encN x ++ r).drop 4, true) := by
      unfold nextD
      rw [if_pos]
      simp [encN]
    rw [e]
    have e1 : be32 (encN x ++ r) = x % 4294967296 := by
      show x % 4294967296 / 16777216 * 16777216 + x % 4294967296 / 65536 % 256 * 65536 + x % 4294967296 / 256 % 256 * 256 + x % 4294967296 % 256 = _
      omega
    have e2 : sg32 (x % 4294967296) = x := by
      unfold sg32
      split <;> omega
    rw [e1, e2]
    rfl
  · cases f
    · have e : nextD r false = (0, r, false) := by unfold nextD; rw [if_neg]; simp
      rw [e] at h
      cases h
    · rfl
  · by_cases hl : 4 ≤ r.length
    · have e : nextD r true = (sg32 (be32 r), r.drop 4, true) := by unfold nextD; rw [if_pos]; simpa using hl
      rw [e]
      match r, hl with
      | a :: b :: c :: d :: r, _ =>
        have ha := hb a (by simp)
        have hb' := hb b (by simp)
        have hc' := hb c (by simp)
        have hd := hb d (by simp)
        unfold Byte at ha hb' hc' hd
        have e1 : be32 (a :: b :: c :: d :: r) = a * 16777216 + b * 65536 + c * 256 + d := rfl
        rw [e1]
        refine ⟨?_, ?_⟩
        · rw [inN_iff]; unfold sg32; split <;> omega
        · show a :: b :: c :: d :: r = encN _ ++ r
          have e2 : sg32 (a * 16777216 + b * 65536 + c * 256 + d) % 4294967296 = a * 16777216 + b * 65536 + c * 256 + d := by
            unfold sg32; split <;> omega
          unfold encN
          try dsimp only
          rw [e2]
          have f1 : (a * 16777216 + b * 65536 + c * 256 + d) / 16777216 = a := by omega
          have f2 : (a * 16777216 + b * 65536 + c * 256 + d) / 65536 % 256 = b := by omega
          have f3 : (a * 16777216 + b * 65536 + c * 256 + d) / 256 % 256 = c := by omega
          have f4 : (a * 16777216 + b * 65536 + c * 256 + d) % 256 = d := by omega
          rw [f1, f2, f3, f4]
          rfl
    · have e : nextD r true = (0, r, false) := by unfold nextD; rw [if_neg]; simpa using hl
      rw [e] at h
      cases h
section
variable {α β : Type}
/-- One reader behind another. -/
def rseq (ra : List Int → Bool → α × List Int × Bool) (rb : List Int → Bool → β × List Int × Bool) (r : List Int) (f : Bool) : (α × β) × List Int × Bool :=
  (((ra r f).1, (rb (ra r f).2.1 (ra r f).2.2).1), (rb (ra r f).2.1 (ra r f).2.2).2)
theorem Rn.seq {ra : List Int → Bool → α × List Int × Bool} {rb : List Int → Bool → β × List Int × Bool} {ga : α → List Int} {gb : β → List Int} {Ga : α → Prop} {Gb : β → Prop} (ha : Rn ra ga Ga) (hb : Rn rb gb Gb) :
    Rn (rseq ra rb) (fun x => ga x.1 ++ gb x.2) (fun x => Ga x.1 ∧ Gb x.2) := by
  refine ⟨fun x r h => ?_, fun r f h => ?_, fun r hy h => ?_⟩
  · unfold rseq
    rw [List.append_assoc, ha.fwd _ _ h.1]
    try dsimp only
    rw [hb.fwd _ _ h.2]
  · exact ha.stay r f (hb.stay _ _ h)
  · have h1 : (ra r true).2.2 = true := hb.stay _ _ h
    obtain ⟨a2, a3⟩ := ha.bwd r hy h1
    have hy' : ∀ y ∈ (ra r true).2.1, Byte y := fun y hm => hy y (by rw [a3]; simp [hm])
    unfold rseq at h ⊢
    try dsimp only at h ⊢
    rw [h1] at h ⊢
    obtain ⟨b2, b3⟩ := hb.bwd _ hy' h
    refine ⟨⟨a2, b2⟩, ?_⟩
    rw [List.append_assoc, ← b3]
    exact a3
/-- A reader's value told otherwise. -/
theorem Rn.iso {rd : List Int → Bool → α × List Int × Bool} {g : α → List Int} {G : α → Prop} (h : Rn rd g G) (m : α → β) (n : β → α) (hn : ∀ x, n (m x) = x) (hm : ∀ y, m (n y) = y) :
    Rn (fun r f => (m (rd r f).1, (rd r f).2)) (fun y => g (n y)) (fun y => G (n y)) := by
  refine ⟨fun x r hx => ?_, fun r f hx => h.stay r f hx, fun r hy hx => ?_⟩
  · try dsimp only
    rw [h.fwd _ _ hx, hm]
  · try dsimp only
    rw [hn]
    exact h.bwd r hy hx
theorem Rn.mono {rd : List Int → Bool → α × List Int × Bool} {g g' : α → List Int} {G G' : α → Prop} (h : Rn rd g G) (hg : ∀ x, g x = g' x) (hG : ∀ x, G x ↔ G' x) : Rn rd g' G' :=
  ⟨fun x r hx => by rw [← hg]; exact h.fwd x r ((hG x).2 hx), h.stay, fun r hy hx => by rw [← hg]; exact ⟨(hG _).1 (h.bwd r hy hx).1, (h.bwd r hy hx).2⟩⟩
/-- What is read is laid behind what there is. -/
def app1 (rd : List Int → Bool → α × List Int × Bool) (a : List α) (r : List Int) (f : Bool) : List α × List Int × Bool := (a ++ [(rd r f).1], (rd r f).2)
theorem loop_fwd {rd : List Int → Bool → α × List Int × Bool} {g : α → List Int} {G : α → Prop} (h : Rn rd g G) : ∀ (l a : List α) (r : List Int), (∀ x ∈ l, G x) → loopD (app1 rd) l.length a (l.flatMap g ++ r) true = (a ++ l, r, true)
  | [], a, r, _ => by simp [loopD]
  | x :: l, a, r, hl => by
    show (if true = true then _ else _) = _
    rw [if_pos rfl, List.flatMap_cons, List.append_assoc]
    unfold app1
    rw [h.fwd x _ (hl x (by simp))]
    try dsimp only
    have := loop_fwd h l (a ++ [x]) r (fun y hy => hl y (by simp [hy]))
    unfold app1 at this
    rw [this, List.append_assoc]
    rfl
theorem loop_stay {rd : List Int → Bool → α × List Int × Bool} {g : α → List Int} {G : α → Prop} (h : Rn rd g G) : ∀ (k : Nat) (a : List α) (r : List Int) (f : Bool), (loopD (app1 rd) k a r f).2.2 = true → f = true
  | 0, _, _, _, hf => hf
  | k + 1, a, r, f, hf => by
    unfold loopD at hf
    split at hf
    · assumption
    · exact hf
theorem loop_bwd {rd : List Int → Bool → α × List Int × Bool} {g : α → List Int} {G : α → Prop} (h : Rn rd g G) : ∀ (k : Nat) (a : List α) (r : List Int), (∀ y ∈ r, Byte y) → (loopD (app1 rd) k a r true).2.2 = true →
    ∃ l : List α, l.length = k ∧ (∀ x ∈ l, G x) ∧ (loopD (app1 rd) k a r true).1 = a ++ l ∧ r = l.flatMap g ++ (loopD (app1 rd) k a r true).2.1
  | 0, a, r, _, _ => ⟨[], rfl, (fun _ h => by cases h), (List.append_nil a).symm, rfl⟩
  | k + 1, a, r, hy, hf => by
    have e : loopD (app1 rd) (k + 1) a r true = loopD (app1 rd) k (a ++ [(rd r true).1]) (rd r true).2.1 (rd r true).2.2 := by
      show (if true = true then _ else _) = _
      rw [if_pos rfl]
      rfl
    rw [e] at hf ⊢
    have h1 := loop_stay h _ _ _ _ hf
    obtain ⟨b1, b2⟩ := h.bwd r hy h1
    rw [h1] at hf ⊢
    obtain ⟨l, c1, c2, c3, c4⟩ := loop_bwd h k _ _ (fun y hm => hy y (by rw [b2]; simp [hm])) hf
    refine ⟨(rd r true).1 :: l, by simp [c1], fun x hx => ?_, by rw [c3]; simp, ?_⟩
    · rcases List.mem_cons.1 hx with rfl | hx
      · exact b1
      · exact c2 x hx
    · rw [List.flatMap_cons, List.append_assoc, ← c4]
      exact b2
/-- A list, its length ahead. -/
theorem Rn.many {rd : List Int → Bool → α × List Int × Bool} {g : α → List Int} {G : α → Prop} (h : Rn rd g G) :
    Rn (fun r f => manyD (app1 rd) [] r f) (fun l => encN l.length ++ l.flatMap g) (fun l => (l.length : Int) ≤ 65535 ∧ ∀ x ∈ l, G x) := by
  refine ⟨fun l r hx => ?_, fun r f hx => ?_, fun r hy hx => ?_⟩
  · try dsimp only
    unfold manyD
    rw [List.append_assoc, rn_next.fwd _ _ (by rw [inN_iff]; have := hx.1; omega)]
    try dsimp only
    have e : (true && decide ((0 : Int) ≤ (l.length : Int)) && decide ((l.length : Int) ≤ 65535)) = true := by
      rw [Bool.and_eq_true, Bool.and_eq_true, decide_eq_true_eq, decide_eq_true_eq]
      exact ⟨⟨rfl, by omega⟩, hx.1⟩
    rw [e, Int.toNat_natCast, loop_fwd h l [] r hx.2]
    rfl
  · unfold manyD at hx
    have := loop_stay h _ _ _ _ hx
    rw [Bool.and_eq_true, Bool.and_eq_true] at this
    exact rn_next.stay r f this.1.1
  · try dsimp only at hx ⊢
    unfold manyD at hx ⊢
    have h1 := loop_stay h _ _ _ _ hx
    rw [h1] at hx ⊢
    rw [Bool.and_eq_true, Bool.and_eq_true, decide_eq_true_eq, decide_eq_true_eq] at h1
    obtain ⟨⟨h1, h2⟩, h3⟩ := h1
    obtain ⟨b1, b2⟩ := rn_next.bwd r hy h1
    obtain ⟨l, c1, c2, c3, c4⟩ := loop_bwd h _ _ _ (fun y hm => hy y (by rw [b2]; simp [hm])) hx
    have e : ((nextD r true).1.toNat : Int) = (nextD r true).1 := Int.toNat_of_nonneg h2
    rw [c3]
    have hl : (([] ++ l : List α).length : Int) = (nextD r true).1 := by rw [List.nil_append, c1, e]
    refine ⟨⟨by rw [hl]; exact h3, fun x hx => c2 x (by simpa using hx)⟩, ?_⟩
    rw [hl, List.nil_append, List.append_assoc, ← c4]
    exact b2
end
theorem rn_nums : ∀ k : Nat, Rn (numsD k) (fun l => l.flatMap encN) (fun l => l.length = k ∧ ∀ x ∈ l, inN x = true)
  | 0 => ⟨fun l r h => by
      obtain rfl : l = [] := List.length_eq_zero_iff.1 h.1
      rfl, fun r f h => h, fun r _ _ => ⟨⟨rfl, fun _ h => by cases h⟩, rfl⟩⟩
  | k + 1 => by
    have ih := rn_nums k
    refine ⟨fun l r h => ?_, fun r f h => ih.stay r f (rn_next.stay _ _ h), fun r hy h => ?_⟩
    · rcases List.eq_nil_or_concat l with rfl | ⟨l, x, rfl⟩
      · cases h.1
      · try dsimp only
        rw [List.concat_eq_append] at h ⊢
        have e := ih.fwd l (encN x ++ r) ⟨by have := h.1; rw [List.length_append] at this; simpa using this, fun y hy => h.2 y (by simp [hy])⟩
        unfold numsD
        rw [List.flatMap_append, List.append_assoc, show [x].flatMap encN = encN x by simp, e]
        try dsimp only
        rw [rn_next.fwd x r (h.2 x (by simp))]
    · unfold numsD at h ⊢
      try dsimp only at h ⊢
      have h1 := rn_next.stay _ _ h
      obtain ⟨⟨a1, a2⟩, a3⟩ := ih.bwd r hy h1
      rw [h1] at h ⊢
      obtain ⟨b1, b2⟩ := rn_next.bwd _ (fun y hm => hy y (by rw [a3]; simp [hm])) h
      refine ⟨⟨by simp [a1], fun x hx => ?_⟩, ?_⟩
      · rcases List.mem_append.1 hx with hx | hx
        · exact a2 x hx
        · rw [List.mem_singleton.1 hx]; exact b1
      · rw [List.flatMap_append, List.append_assoc, show [(nextD (numsD k r true).2.1 true).1].flatMap encN = encN (nextD (numsD k r true).2.1 true).1 by simp, ← b2]
        exact a3
def GN (n : Int) : Prop := inN n = true
theorem rn_list : Rn listD (fun l => encN l.length ++ l.flatMap encN) (fun l => (l.length : Int) ≤ 65535 ∧ ∀ x ∈ l, inN x = true) := rn_next.many
theorem rn_part : Rn (fun r f => manyD eachP [] r f) (fun l => encN l.length ++ l.flatMap fun x => (prN x).flatMap encN) (fun l => (l.length : Int) ≤ 65535 ∧ ∀ x ∈ l, ∀ n ∈ prN x, inN n = true) :=
  (((rn_next.seq (rn_next.seq rn_next)).iso (fun x => (⟨x.1, x.2.1, x.2.2⟩ : S57)) (fun y => (y.f0, y.f1, y.f2)) (fun _ => rfl) (fun _ => rfl)).mono (g' := fun x => (prN x).flatMap encN) (G' := fun x => ∀ n ∈ prN x, inN n = true) (fun x => by simp [prN]) (fun x => by simp [prN])).many
set_option maxHeartbeats 2000000 in
theorem rn_port : Rn (fun r f => manyD eachQ [] r f) (fun l => encN l.length ++ l.flatMap fun x => (poN x).flatMap encN) (fun l => (l.length : Int) ≤ 65535 ∧ ∀ x ∈ l, ∀ n ∈ poN x, inN n = true) :=
  (((rn_next.seq (rn_next.seq (rn_next.seq (rn_next.seq (rn_next.seq rn_next))))).iso (fun x => (⟨x.1, x.2.1, x.2.2.1, x.2.2.2.1, x.2.2.2.2.1, x.2.2.2.2.2⟩ : S59)) (fun y => (y.f0, y.f1, y.f2, y.f3, y.f4, y.f5)) (fun _ => rfl) (fun _ => rfl)).mono (g' := fun x => (poN x).flatMap encN) (G' := fun x => ∀ n ∈ poN x, inN n = true) (fun x => by simp [poN]) (fun x => by simp [poN])).many
theorem rn_win : Rn (fun r f => manyD eachW [] r f) (fun l => encN l.length ++ l.flatMap fun x => (liN x).flatMap encN) (fun l => (l.length : Int) ≤ 65535 ∧ ∀ x ∈ l, (x.length : Int) ≤ 65535 ∧ ∀ n ∈ x, inN n = true) :=
  (rn_list.mono (g' := fun x => (liN x).flatMap encN) (fun x => by simp [liN]) (fun _ => Iff.rfl)).many
theorem rn_link : Rn (fun r f => manyD eachK [] r f) (fun l => encN l.length ++ l.flatMap fun x => (lkN x).flatMap encN) (fun l : List S61 => (l.length : Int) ≤ 65535 ∧ ∀ x ∈ l, inN x.f0 = true ∧ inN x.f2 = true ∧ (x.f1.length : Int) ≤ 65535 ∧ ∀ n ∈ x.f1, inN n = true) :=
  (((rn_next.seq (rn_next.seq rn_list)).iso (fun x => (⟨x.1, x.2.2, x.2.1⟩ : S61)) (fun y => (y.f0, y.f2, y.f1)) (fun _ => rfl) (fun _ => rfl)).mono (g' := fun x => (lkN x).flatMap encN) (G' := fun x => inN x.f0 = true ∧ inN x.f2 = true ∧ (x.f1.length : Int) ≤ 65535 ∧ ∀ n ∈ x.f1, inN n = true) (fun x => by simp [lkN, liN]) (fun x => Iff.rfl)).many
/-- The whole body. -/
def bodyR (r : List Int) (f : Bool) : (List Int × List Int × List (S57) × List (List Int) × List (S59) × List (S61)) × List Int × Bool :=
  rseq (numsD 7) (rseq listD (rseq (fun r f => manyD eachP [] r f) (rseq (fun r f => manyD eachW [] r f) (rseq (fun r f => manyD eachQ [] r f) (fun r f => manyD eachK [] r f))))) r f
def ofR (x : List Int × List Int × List (S57) × List (List Int) × List (S59) × List (S61)) : S29 :=
  ⟨x.1.getD 0 0, x.2.1, x.1.getD 1 0, x.1.getD 2 0, x.1.getD 3 0, x.1.getD 4 0, x.1.getD 5 0, x.1.getD 6 0, x.2.2.1, x.2.2.2.1, x.2.2.2.2.1, x.2.2.2.2.2⟩
def toR (C : S29) : List Int × List Int × List (S57) × List (List Int) × List (S59) × List (S61) :=
  ([C.f0, C.f2, C.f3, C.f4, C.f5, C.f6, C.f7], C.f1, C.f8, C.f9, C.f10, C.f11)
theorem body_eq (r : List Int) : bodyD r = (ofR (bodyR r true).1, (bodyR r true).2) := by
  unfold bodyD bodyR ofR rseq
  rfl
def GBody (x : List Int × List Int × List (S57) × List (List Int) × List (S59) × List (S61)) : Prop :=
  (x.1.length = 7 ∧ ∀ y ∈ x.1, inN y = true) ∧ ((x.2.1.length : Int) ≤ 65535 ∧ ∀ y ∈ x.2.1, inN y = true) ∧ ((x.2.2.1.length : Int) ≤ 65535 ∧ ∀ z ∈ x.2.2.1, ∀ n ∈ prN z, inN n = true) ∧ ((x.2.2.2.1.length : Int) ≤ 65535 ∧ ∀ z ∈ x.2.2.2.1, (z.length : Int) ≤ 65535 ∧ ∀ n ∈ z, inN n = true) ∧ ((x.2.2.2.2.1.length : Int) ≤ 65535 ∧ ∀ z ∈ x.2.2.2.2.1, ∀ n ∈ poN z, inN n = true) ∧ ((x.2.2.2.2.2.length : Int) ≤ 65535 ∧ ∀ z ∈ x.2.2.2.2.2, inN z.f0 = true ∧ inN z.f2 = true ∧ (z.f1.length : Int) ≤ 65535 ∧ ∀ n ∈ z.f1, inN n = true)
def gBody (x : List Int × List Int × List (S57) × List (List Int) × List (S59) × List (S61)) : List Int :=
  x.1.flatMap encN ++ ((encN x.2.1.length ++ x.2.1.flatMap encN) ++ ((encN x.2.2.1.length ++ x.2.2.1.flatMap fun x => (prN x).flatMap encN) ++ ((encN x.2.2.2.1.length ++ x.2.2.2.1.flatMap fun x => (liN x).flatMap encN) ++ ((encN x.2.2.2.2.1.length ++ x.2.2.2.2.1.flatMap fun x => (poN x).flatMap encN) ++ (encN x.2.2.2.2.2.length ++ x.2.2.2.2.2.flatMap fun x => (lkN x).flatMap encN)))))
theorem rn_body : Rn bodyR gBody GBody :=
  (rn_nums 7).seq (rn_list.seq (rn_part.seq (rn_win.seq (rn_port.seq rn_link))))
theorem g_body (C : S29) : gBody (toR C) = (cfgNums C).flatMap encN := by
  unfold gBody toR cfgNums
  simp only [List.flatMap_append, List.flatMap_cons, List.flatMap_assoc, List.append_assoc, liN, List.flatMap_nil, List.append_nil]
theorem to_of {x : List Int × List Int × List (S57) × List (List Int) × List (S59) × List (S61)} (h : x.1.length = 7) : toR (ofR x) = x := by
  obtain ⟨l, x⟩ := x
  match l, h with
  | [_, _, _, _, _, _, _], _ => rfl
theorem G_body (C : S29) : GBody (toR C) ↔ (cfgFine C && (cfgNums C).all inN) = true := by
  unfold GBody toR cfgNums cfgFine
  have e : ∀ n : Nat, (n : Int) ≤ 65535 → inN n = true := fun n h => by rw [inN_iff]; omega
  simp only [Bool.and_eq_true, decide_eq_true_eq, List.all_eq_true, List.mem_append, List.mem_cons, List.mem_flatMap, liN, lkN, List.length_cons, List.length_nil, List.not_mem_nil, or_false]
  constructor
  · rintro ⟨⟨-, h1⟩, ⟨h2, h3⟩, ⟨h4, h5⟩, ⟨h6, h7⟩, ⟨h8, h9⟩, ⟨h10, h11⟩⟩
    refine ⟨⟨⟨⟨⟨⟨⟨h2, h4⟩, h6⟩, fun l hl => (h7 l hl).1⟩, h8⟩, h10⟩, fun x hx => (h11 x hx).2.2.1⟩, ?_⟩
    rintro n (((((h | rfl | h) | rfl | ⟨x, hx, h⟩) | rfl | ⟨x, hx, rfl | h⟩) | rfl | ⟨x, hx, h⟩) | rfl | ⟨x, hx, h⟩)
    · exact h1 n h
    · exact e _ h2
    · exact h3 n h
    · exact e _ h4
    · exact h5 x hx n h
    · exact e _ h6
    · exact e _ (h7 x hx).1
    · exact (h7 x hx).2 n h
    · exact e _ h8
    · exact h9 x hx n h
    · exact e _ h10
    · rcases h with (rfl | rfl) | rfl | h
      · exact (h11 x hx).1
      · exact (h11 x hx).2.1
      · exact e _ (h11 x hx).2.2.1
      · exact (h11 x hx).2.2.2 n h
  · rintro ⟨⟨⟨⟨⟨⟨⟨h2, h4⟩, h6⟩, h7⟩, h8⟩, h10⟩, h11⟩, h⟩
    refine ⟨⟨trivial, fun n hn => h n (.inl (.inl (.inl (.inl (.inl hn)))))⟩, ⟨h2, fun n hn => h n (.inl (.inl (.inl (.inl (.inr (.inr hn))))))⟩, ⟨h4, fun x hx n hn => h n (.inl (.inl (.inl (.inr (.inr ⟨x, hx, hn⟩)))))⟩, ⟨h6, fun x hx => ⟨h7 x hx, fun n hn => h n (.inl (.inl (.inr (.inr ⟨x, hx, .inr hn⟩))))⟩⟩, ⟨h8, fun x hx n hn => h n (.inl (.inr (.inr ⟨x, hx, hn⟩)))⟩, ⟨h10, fun x hx => ⟨h _ (.inr (.inr ⟨x, hx, .inl (.inl rfl)⟩)), h _ (.inr (.inr ⟨x, hx, .inl (.inr rfl)⟩)), h11 x hx, fun n hn => h n (.inr (.inr ⟨x, hx, .inr (.inr hn)⟩))⟩⟩⟩
theorem bytes_enc (l : List Int) : ∀ x ∈ l.flatMap encN, Byte x := by
  intro x hx
  obtain ⟨n, -, hx⟩ := List.mem_flatMap.1 hx
  unfold encN at hx
  unfold Byte
  simp only [List.mem_cons, List.not_mem_nil, or_false] at hx
  omega
theorem bytes_encS (C : S29) : ∀ x ∈ (encS C).1, Byte x := by
  intro x hx
  unfold encS at hx
  split at hx
  · rcases List.mem_append.1 hx with hx | hx
    · simp only [List.mem_cons, List.not_mem_nil, or_false] at hx
      unfold Byte
      omega
    · exact bytes_enc _ x hx
  · cases hx
/-- What was written is read as it was. -/
theorem dec_enc (C : S29) (h : (encS C).2 = 0) : decD (encS C).1 = (C, 0) := by
  unfold encS at h ⊢
  by_cases hc : (cfgFine C && (cfgNums C).all inN) = true
  · rw [if_pos hc]
    have hb : bodyR ((cfgNums C).flatMap encN) true = (toR C, [], true) := by
      have := rn_body.fwd (toR C) [] ((G_body C).2 hc)
      rw [g_body, List.append_nil] at this
      exact this
    unfold decD
    dsimp only
    have ht : ([82, 79, 84, 65] ++ (cfgNums C).flatMap encN).take 4 = [82, 79, 84, 65] := rfl
    have hd : ([82, 79, 84, 65] ++ (cfgNums C).flatMap encN).drop 4 = (cfgNums C).flatMap encN := rfl
    rw [if_pos ht, hd, body_eq, hb, if_pos ⟨rfl, rfl⟩]
    rfl
  · rw [if_neg hc] at h
    cases h
theorem enc_err (C : S29) : (encS C).2 = 0 ∨ encS C = ([], 2) := by
  unfold encS
  split
  · exact .inl rfl
  · exact .inr rfl
theorem dec_err (b : List Int) : (decD b).2 = 0 ∨ decD b = (noCfg, 20) := by
  unfold decD
  split
  · split
    · exact .inl rfl
    · exact .inr rfl
  · exact .inr rfl
/-- What was read is written as it was. -/
theorem enc_dec (b : List Int) (hy : ∀ y ∈ b, Byte y) (h : (decD b).2 = 0) : encS (decD b).1 = (b, 0) := by
  unfold decD at h ⊢
  split at h
  · rename_i h4
    rw [if_pos h4]
    split at h
    · rename_i hq
      rw [if_pos hq]
      dsimp only
      rw [body_eq] at hq ⊢
      dsimp only at hq ⊢
      obtain ⟨b1, b2⟩ := rn_body.bwd _ (fun y hm => hy y (List.mem_of_mem_drop hm)) hq.1
      rw [hq.2, List.append_nil] at b2
      have e := to_of b1.1.1
      have hg := (G_body (ofR (bodyR (b.drop 4) true).1)).1 (by rw [e]; exact b1)
      unfold encS
      rw [if_pos hg, ← g_body, e, ← b2, ← h4, List.take_append_drop]
    · cases h
  · cases h
end Go.Proofs.Ytehbabkgaecoaaa
