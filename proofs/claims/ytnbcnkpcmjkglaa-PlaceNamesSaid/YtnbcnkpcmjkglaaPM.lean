/- The greatest free span; what the document's Free answers: plain. -/
import Derived.Test.YtnbcnkpcmjkglaaPL
import Derived.Test.YtnbcnkpcmjkglaaQm
namespace Go.Proofs.Ytnbcnkpcmjkglaa
open Go.RowKit Go.Proofs.Ytnbcnkpcmjkglaa.Px Go.Proofs.Ytnbcnkpcmjkglaa.Ql Go.Proofs.Ytnbcnkpcmjkglaa.Qm Go.Proofs.YtnbcnkpcmjkglaaW.PrintWords
theorem wrap_in {x : Int} (h0 : -9223372036854775808 ≤ x) (h1 : x ≤ 9223372036854775807) : wrap64 x = x := IntWalk.wrap64_in x ⟨h0, h1⟩
theorem rd_app (pre : List S30) (s : S30) (suf : List S30) : rd_T30 (pre ++ s :: suf) (pre.length : Int) = s := by
  unfold rd_T30
  simp
theorem app_one {α : Type} (pre : List α) (s : α) (suf : List α) : pre ++ s :: suf = (pre ++ [s]) ++ suf := by simp
theorem len_one (pre : List S30) (s : S30) : ((pre.length : Int) + 1) = ((pre ++ [s]).length : Int) := by simp
/-- Is a place in a span? -/
def inB (l : List S30) (p : Int) : Bool := l.any (fun s => decide (s.f0 ≤ p) && decide (p < s.f1))
theorem inB_iff {l : List S30} {p : Int} : inB l p = true ↔ InS (l.map toP) p := by
  unfold inB InS
  simp only [List.any_eq_true, Bool.and_eq_true, decide_eq_true_eq, List.mem_map]
  constructor
  · rintro ⟨s, hs, h⟩; exact ⟨_, ⟨s, hs, rfl⟩, h⟩
  · rintro ⟨_, ⟨s, hs, rfl⟩, h⟩; exact ⟨s, hs, h⟩
theorem in_loop (p : Int) : ∀ (suf pre : List S30) (k : Nat), suf.length < k → pre.length + suf.length ≤ 1000 → rotaref16_In.l0 k (pre ++ suf) p pre.length = some (inB suf p)
  | [], pre, k, hk, _ => by
    obtain ⟨k, rfl⟩ : ∃ j, k = j + 1 := ⟨k - 1, by omega⟩
    rw [rotaref16_In.l0, if_neg (by simp)]
    rfl
  | s :: suf, pre, k, hk, hn => by
    obtain ⟨k, rfl⟩ : ∃ j, k = j + 1 := ⟨k - 1, by simp at hk; omega⟩
    simp only [List.length_cons] at hk hn
    have ih := in_loop p suf (pre ++ [s]) k (by omega) (by simp; omega)
    rw [← app_one, ← len_one] at ih
    rw [rotaref16_In.l0, if_pos (by simp; omega), if_pos (by omega), rd_app, wrap_in (x := (pre.length : Int) + 1) (by omega) (by omega), ih]
    unfold inB
    by_cases h1 : s.f0 ≤ p
    · rw [if_pos h1]
      by_cases h2 : p < s.f1
      · rw [if_pos h2]; simp [h1, h2]
      · rw [if_neg h2]; simp [h2]
    · rw [if_neg h1]; simp [h1]
theorem in_f (k : Nat) (l : List S30) (p : Int) (hk : l.length < k) (hl : l.length ≤ 1000) : rotaref16_In.f k l p = some (inB l p) := in_loop p l [] k hk (by simpa using hl)
theorem refMay_f (a b c : Int) : rotaref16_may.f a b c = some (mayB a b c) := may_eq a b c
/-- The greatest of these. -/
def mostOf : Int → List S30 → Int
  | m, [] => m
  | m, s :: r => mostOf (mx m (s.f1 - s.f0)) r
def Bd (s : S30) : Prop := 0 ≤ s.f0 ∧ s.f0 < s.f1 ∧ s.f1 ≤ 1048576
theorem most_loop : ∀ (suf pre : List S30) (m : Int) (k : Nat), suf.length < k → pre.length + suf.length ≤ 1000 → (∀ s ∈ suf, Bd s) → place_Most.l0 k m (pre ++ suf) ((pre ++ suf).length : Int) pre.length = some (mostOf m suf)
  | [], pre, m, k, hk, _, _ => by
    obtain ⟨k, rfl⟩ : ∃ j, k = j + 1 := ⟨k - 1, by omega⟩
    rw [place_Most.l0, if_neg (by simp)]
    rfl
  | s :: suf, pre, m, k, hk, hn, hb => by
    obtain ⟨k, rfl⟩ : ∃ j, k = j + 1 := ⟨k - 1, by simp at hk; omega⟩
    simp only [List.length_cons] at hk hn
    have ih := most_loop suf (pre ++ [s]) (mx m (s.f1 - s.f0)) k (by omega) (by simp; omega) (fun t ht => hb t (List.mem_cons_of_mem _ ht))
    rw [← app_one, ← len_one] at ih
    obtain ⟨b0, b1, b2⟩ := hb s (by simp)
    rw [place_Most.l0, if_pos (by simp; omega), if_pos (by omega), if_pos (by simp; omega), rd_app, wrap_in (x := s.f1 - s.f0) (by omega) (by omega), wrap_in (x := (pre.length : Int) + 1) (by omega) (by omega), ih]
    rfl
theorem goF_len (limit : Int) : ∀ (l : List (Int × Int)) (a : Int), (goF limit a l).length ≤ l.length + 1
  | [], a => by unfold goF; split <;> simp
  | s :: l, a => by
    unfold goF
    have := goF_len limit l (max a s.2)
    split <;> simp <;> omega
theorem freeL_len (l : List S30) (limit : Int) : (freeL l limit).length ≤ l.length + 1 := by
  unfold freeL
  refine Nat.le_trans (goF_len _ _ _) ?_
  rw [List.length_map, List.length_mergeSort]
  have := List.length_filter_le (keepB limit) l
  omega
theorem freeL_bd {l : List S30} {limit : Int} (hl : limit ≤ 1048576) : ∀ s ∈ (freeL l limit).map ofP, Bd s := by
  intro s hs
  obtain ⟨t, ht, rfl⟩ := List.mem_map.1 hs
  obtain ⟨h1, h2, h3, -⟩ := (freeL_runs l limit).mem_bd t ht
  exact ⟨h1, h2, Int.le_trans h3 hl⟩
/-- What Free and Most answer. -/
def freeR (l : List S30) (limit : Int) : List S30 := if mayB 0 1 limit then (freeL l limit).map ofP else []
theorem free_f (k : Nat) (l : List S30) (limit : Int) (h : l.length ≤ 1000000) : place_Free.f k l limit = some (freeR l limit) := by
  unfold place_Free.f freeR
  rw [if_pos h]
theorem freeR_bd (l : List S30) (limit : Int) : ∀ s ∈ freeR l limit, Bd s := by
  unfold freeR
  split
  · rename_i h
    exact freeL_bd (mayB_iff.1 h).2.2.2
  · intro s hs; simp at hs
theorem freeR_len (l : List S30) (limit : Int) : (freeR l limit).length ≤ l.length + 1 := by
  unfold freeR
  split
  · rw [List.length_map]; exact freeL_len l limit
  · simp
theorem most_f (k : Nat) (l : List S30) (limit : Int) (h : l.length ≤ 900) (hk : l.length + 1 < k) : place_Most.f k l limit = some (mostOf 0 (freeR l limit)) := by
  have h1 := freeR_len l limit
  unfold place_Most.f
  rw [free_f k l limit (by omega), Option.bind_some]
  exact most_loop (freeR l limit) [] 0 k (by omega) (by simp; omega) (freeR_bd l limit)
theorem mostOf_iff {n : Int} : ∀ {l : List S30} {m : Int}, n ≤ mostOf m l ↔ n ≤ m ∨ ∃ s ∈ l, n ≤ s.f1 - s.f0
  | [], m => by simp [mostOf]
  | s :: l, m => by
    rw [mostOf, mostOf_iff]
    have : mx m (s.f1 - s.f0) = max m (s.f1 - s.f0) := by unfold mx; omega
    rw [this]
    constructor
    · rintro (h | ⟨t, ht, h⟩)
      · by_cases h' : n ≤ m
        · exact .inl h'
        · exact .inr ⟨s, by simp, by omega⟩
      · exact .inr ⟨t, by simp [ht], h⟩
    · rintro (h | ⟨t, ht, h⟩)
      · exact .inl (by omega)
      · rcases List.mem_cons.1 ht with rfl | ht
        · exact .inl (by omega)
        · exact .inr ⟨t, ht, h⟩
theorem findF_iff {size align : Int} : ∀ {F : List (Int × Int)}, (findF size align F).isSome = true ↔ ∃ s ∈ F, upI s.1 align + size ≤ s.2
  | [] => by simp [findF]
  | s :: F => by
    unfold findF
    split
    · rename_i h
      simp only [Option.isSome_some, true_iff]
      exact ⟨s, by simp, h⟩
    · rename_i h
      rw [findF_iff]
      constructor
      · rintro ⟨t, ht, h⟩; exact ⟨t, by simp [ht], h⟩
      · rintro ⟨t, ht, h'⟩
        rcases List.mem_cons.1 ht with rfl | ht
        · exact absurd h' h
        · exact ⟨t, ht, h'⟩
theorem most_first {l : List S30} {size limit : Int} (h0 : 0 ≤ size) (h1 : size ≤ 1048576) (l0 : 0 ≤ limit) (l1 : limit ≤ 1048576) : (firstR l size 1 limit).2 = decide (size ≤ mostOf 0 (freeR l limit)) := by
  have hm : mayB size 1 limit = true := mayB_iff.2 ⟨⟨h0, h1⟩, ⟨by omega, by omega⟩, l0, l1⟩
  have hm0 : mayB 0 1 limit = true := mayB_iff.2 ⟨⟨by omega, by omega⟩, ⟨by omega, by omega⟩, l0, l1⟩
  have hu : ∀ n : Int, upI n 1 = n := fun n => by unfold upI; omega
  unfold firstR freeR
  rw [if_pos hm, if_pos hm0]
  by_cases hz : size = 0
  · rw [if_pos hz]
    subst hz
    have : (0 : Int) ≤ mostOf 0 ((freeL l limit).map ofP) := mostOf_iff.2 (.inl (by omega))
    simp [this]
  · rw [if_neg hz]
    unfold firstV
    have hiff : (findF size 1 (freeL l limit)).isSome = true ↔ size ≤ mostOf 0 ((freeL l limit).map ofP) := by
      rw [findF_iff, mostOf_iff]
      constructor
      · rintro ⟨s, hs, h⟩
        rw [hu] at h
        exact .inr ⟨ofP s, List.mem_map.2 ⟨s, hs, rfl⟩, by show size ≤ s.2 - s.1; omega⟩
      · rintro (h | ⟨t, ht, h⟩)
        · omega
        · obtain ⟨s, hs, rfl⟩ := List.mem_map.1 ht
          exact ⟨s, hs, by rw [hu]; have : size ≤ s.2 - s.1 := h; omega⟩
    cases hf : findF size 1 (freeL l limit) with
    | none =>
      rw [hf] at hiff
      simp only [Option.isSome_none, Bool.false_eq_true, false_iff] at hiff
      simp [hiff]
    | some r =>
      rw [hf] at hiff
      simp only [Option.isSome_some, true_iff] at hiff
      simp [hiff]
theorem placeMost_plain (l : List S30) (size limit : Int) : rotalaw16_PlaceMost.f 100 l size limit = some true := by
  unfold rotalaw16_PlaceMost.f
  rw [alive_f, Option.bind_some]
  by_cases c1 : (l.length : Int) > 50
  · rw [if_pos c1]; simp [rotalaw16_PlaceMost.j0]
  rw [if_neg c1]
  by_cases c2 : size < 0
  · rw [if_pos c2]; simp [rotalaw16_PlaceMost.j0]
  rw [if_neg c2]
  by_cases c3 : size > 1048576
  · rw [if_pos c3]; simp [rotalaw16_PlaceMost.j0]
  rw [if_neg c3]
  by_cases c4 : limit < 0
  · rw [if_pos c4]; simp [rotalaw16_PlaceMost.j0]
  rw [if_neg c4]
  by_cases c5 : limit > 1048576
  · rw [if_pos c5]; simp [rotalaw16_PlaceMost.j0]
  rw [if_neg c5]
  simp only [rotalaw16_PlaceMost.j0, Bool.not_true, Bool.false_eq_true, if_false]
  rw [first_f _ _ _ _ _ (by omega), Option.bind_some, if_pos trivial, most_f _ _ _ (by omega) (by omega), Option.bind_some, most_first (by omega) (by omega) (by omega) (by omega)]
  simp
theorem placeMost_walk (w : World) (A0 : Option Addr) (c0 : Nat) (l0 : List S30) (hr0 : Kd.C k30 w A0 l0.length l0) (hc0 : l0.length ≤ c0) (_hw0 : ∀ x ∈ l0, (Lit.int .i64 x.f0).wf = true ∧ (Lit.int .i64 x.f1).wf = true)
    (a1 : Int) (_w1 : (Lit.int .i64 a1).wf = true) (a2 : Int) (_w2 : (Lit.int .i64 a2).wf = true) :
    Calls Try.prog 7 #[.slice A0 l0.length c0, .int .i64 a1, .int .i64 a2] w fun e w' => e = .returned (.bool true) ∧ Below w.heap.size w w' :=
  rotalaw16_PlaceMost.calls 100 A0 c0 l0 a1 a2 true w hr0 hc0 (placeMost_plain l0 a1 a2)
end Go.Proofs.Ytnbcnkpcmjkglaa
