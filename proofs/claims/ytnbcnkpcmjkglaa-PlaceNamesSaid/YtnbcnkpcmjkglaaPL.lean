/- First in plain words; the law PlaceLess. -/
import Derived.Test.YtnbcnkpcmjkglaaQl
import Derived.OpenShut
import Derived.Test.YtnbcnkpcmjkglaaOpenSp
namespace Go.Proofs.Ytnbcnkpcmjkglaa
open Go.RowKit Go.Proofs.Ytnbcnkpcmjkglaa.Px Go.Proofs.Ytnbcnkpcmjkglaa.Ql Go.Proofs.YtnbcnkpcmjkglaaW.PrintWords
/-- What First answers. -/
def firstR (l : List S30) (size align limit : Int) : Int × Bool := if mayB size align limit then (if size = 0 then (0, true) else firstV l size align limit) else (-1, false)
theorem first_f (k : Nat) (l : List S30) (size align limit : Int) (h : l.length ≤ 8796093022208) : place_First.f k l size align limit = some (firstR l size align limit) := by
  unfold place_First.f firstR
  rw [if_pos h]
theorem mayB_iff {size align limit : Int} : mayB size align limit = true ↔ (0 ≤ size ∧ size ≤ 1048576) ∧ (1 ≤ align ∧ align ≤ 1048576) ∧ 0 ≤ limit ∧ limit ≤ 1048576 := by
  unfold mayB
  simp only [Bool.and_eq_true, decide_eq_true_eq]
  constructor
  · rintro ⟨⟨⟨⟨⟨a, b⟩, c⟩, d⟩, e⟩, f⟩; exact ⟨⟨a, b⟩, ⟨c, d⟩, e, f⟩
  · rintro ⟨⟨a, b⟩, ⟨c, d⟩, e, f⟩; exact ⟨⟨⟨⟨⟨a, b⟩, c⟩, d⟩, e⟩, f⟩
/-- The places that no span of these takes. -/
abbrev Un (l : List S30) (p : Int) : Prop := ¬ InS (l.map toP) p
theorem firstR_is {l : List S30} {size align limit : Int} (h : mayB size align limit = true) : IsFirst (Un l) size align limit (firstR l size align limit) := by
  have hm := mayB_iff.1 h
  unfold firstR
  rw [if_pos h]
  by_cases hz : size = 0
  · rw [if_pos hz]
    subst hz
    exact first_zero hm.2.2.1
  · rw [if_neg hz]
    exact findF_first (by omega) hm.2.1.1 (freeL_runs l limit)
theorem freeL_sorted {l : List S30} {limit : Int} (h : (l.filter (keepB limit)).Pairwise (fun a b => a.f0 ≤ b.f0)) : freeL l limit = goF limit 0 ((l.filter (keepB limit)).map toP) :=
  Runs.uniq (freeL_runs l limit) (free_runs' (List.Perm.refl _) h)
theorem few_free : freeL [⟨0, 4⟩, ⟨6, 8⟩] 12 = [(4, 6), (8, 12)] := by
  rw [freeL_sorted (by decide +kernel)]
  decide +kernel
theorem alive_f (k : Nat) : rotalaw16_alive.f k = some true := by
  have h1 : firstR [⟨0, 4⟩, ⟨6, 8⟩] 2 1 12 = (4, true) := by
    unfold firstR firstV; rw [few_free]; decide +kernel
  have h2 : firstR [⟨0, 4⟩, ⟨6, 8⟩] 3 4 12 = (8, true) := by
    unfold firstR firstV; rw [few_free]; decide +kernel
  unfold rotalaw16_alive.f rotalaw16_few.f
  rw [Option.bind_some, first_f _ _ _ _ _ (by simp), Option.bind_some, Option.bind_some, first_f _ _ _ _ _ (by simp), Option.bind_some, h1, h2]
  rfl
theorem great_f (l : List S30) (m : List Int) (limit : Int) : rotalaw16_great.f l m limit = some (decide (50 < l.length) || (decide (50 < m.length) || (decide (300 < limit) && decide (limit ≤ 1048576)))) := by
  unfold rotalaw16_great.f
  by_cases h1 : 50 < l.length
  · rw [if_pos (by omega)]; simp [h1]
  · rw [if_neg (by omega)]
    by_cases h2 : 50 < m.length
    · rw [if_pos (by omega)]; simp [h2]
    · rw [if_neg (by omega)]
      by_cases h3 : limit > 300
      · rw [if_pos h3]; simp [h1, h2, show 300 < limit from h3]
      · rw [if_neg h3]; simp [h1, h2, show ¬ 300 < limit from h3]
theorem un_take {l : List S30} (n : Nat) {p : Int} (h : Un l p) : Un (l.take n) p := by
  rintro ⟨s, hs, h1⟩
  refine h ⟨s, ?_, h1⟩
  obtain ⟨x, hx, rfl⟩ := List.mem_map.1 hs
  exact List.mem_map.2 ⟨x, List.mem_of_mem_take hx, rfl⟩
/-- Less is taken: a place that is no greater. -/
theorem first_take {l : List S30} {size align limit : Int} (n : Nat) (h : (firstR l size align limit).2 = true) : (firstR (l.take n) size align limit).2 = true ∧ (firstR (l.take n) size align limit).1 ≤ (firstR l size align limit).1 := by
  have hm : mayB size align limit = true := by
    unfold firstR at h
    split at h
    · assumption
    · simp at h
  have h1 := firstR_is (l := l) hm
  have h2 := firstR_is (l := l.take n) hm
  rcases h1 with ⟨-, ⟨k, hk, e⟩, hg, -⟩ | ⟨e, -⟩
  · have hg' : GoodAt (Un (l.take n)) size limit (k * align) := by
      rw [e] at hg
      exact ⟨hg.1, hg.2.1, fun p a b => un_take n (hg.2.2 p a b)⟩
    rcases h2 with ⟨h2, -, -, hle⟩ | ⟨-, hno⟩
    · refine ⟨h2, ?_⟩
      rw [e]
      exact hle k hk hg'
    · exact absurd hg' (hno k hk)
  · rw [e] at h; simp at h
/-- A higher limit: the same place. -/
theorem first_more {l : List S30} {size align limit limit' : Int} (hl : limit ≤ limit') (hm' : limit' ≤ 1048576) (h : (firstR l size align limit).2 = true) : firstR l size align limit' = firstR l size align limit := by
  have hm : mayB size align limit = true := by
    unfold firstR at h
    split at h
    · assumption
    · simp at h
  have hq := mayB_iff.1 hm
  have h1 := firstR_is (l := l) hm
  have h2 := firstR_is (l := l) (mayB_iff.2 ⟨hq.1, hq.2.1, by omega, hm'⟩ : mayB size align limit' = true)
  refine h2.uniq ?_
  rcases h1 with ⟨h1, ⟨k, hk, e⟩, hg, hle⟩ | ⟨e, -⟩
  · refine .inl ⟨h1, ⟨k, hk, e⟩, ⟨hg.1, by have := hg.2.1; omega, hg.2.2⟩, fun j hj hgj => ?_⟩
    refine Int.not_lt.1 fun hlt => ?_
    have := hle j hj ⟨hgj.1, by have := hg.2.1; omega, hgj.2.2⟩
    omega
  · rw [e] at h; simp at h
theorem placeLess_plain (l : List S30) (stay size align limit : Int) (w2 : -9223372036854775808 ≤ limit) : rotalaw16_PlaceLess.f 9 l stay size align limit = some true := by
  unfold rotalaw16_PlaceLess.f
  rw [alive_f, Option.bind_some, great_f, Option.bind_some]
  cases hG : (decide (50 < l.length) || (decide (50 < ([] : List Int).length) || (decide (300 < limit) && decide (limit ≤ 1048576))))
  case true => simp [rotalaw16_PlaceLess.j0]
  simp only [Bool.or_eq_false_iff, Bool.and_eq_false_iff, decide_eq_false_iff_not] at hG
  obtain ⟨hl, -, hlim⟩ := hG
  rw [if_neg (by simp)]
  by_cases h300 : limit > 300
  · rw [if_pos h300]; simp [rotalaw16_PlaceLess.j0]
  rw [if_neg h300]
  simp only [rotalaw16_PlaceLess.j0, Bool.not_true, Bool.false_eq_true, if_false]
  have hmod := Int.emod_nonneg stay (show ((l.length : Int) + 1) ≠ 0 by omega)
  have ht1 : -((l.length : Int) + 1) < Int.tmod stay ((l.length : Int) + 1) := by
    have h1 := Int.natAbs_tmod stay ((l.length : Int) + 1)
    have h2 := Nat.mod_lt stay.natAbs (show 0 < ((l.length : Int) + 1).natAbs by omega)
    omega
  have ht2 : Int.tmod stay ((l.length : Int) + 1) < (l.length : Int) + 1 := Int.tmod_lt_of_pos _ (by omega)
  have e1 : wrap64 ((l.length : Int) + 1) = (l.length : Int) + 1 := IntWalk.wrap64_in _ ⟨by omega, by omega⟩
  rw [e1, if_neg (by omega), first_f _ _ _ _ _ (by omega), Option.bind_some]
  generalize Int.tmod stay ((l.length : Int) + 1) = t at ht1 ht2
  have e2 : wrap64 (t + (l.length : Int)) = t + (l.length : Int) := IntWalk.wrap64_in _ ⟨by omega, by omega⟩
  have e3 : wrap64 (t + (l.length : Int) + 1) = t + (l.length : Int) + 1 := IntWalk.wrap64_in _ ⟨by omega, by omega⟩
  rw [e2, e3]
  have ht3 : 0 ≤ Int.tmod (t + (l.length : Int) + 1) ((l.length : Int) + 1) := Int.tmod_nonneg _ (by omega)
  have ht4 : Int.tmod (t + (l.length : Int) + 1) ((l.length : Int) + 1) < (l.length : Int) + 1 := Int.tmod_lt_of_pos _ (by omega)
  generalize Int.tmod (t + (l.length : Int) + 1) ((l.length : Int) + 1) = q at ht3 ht4
  have e4 : wrap64 (limit + 7) = limit + 7 := IntWalk.wrap64_in _ ⟨by omega, by omega⟩
  rw [if_pos ht3, if_pos (by omega), first_f _ _ _ _ _ (by simp; omega), Option.bind_some, first_f _ _ _ _ _ (by omega), Option.bind_some, if_pos trivial, e4]
  by_cases hf : (firstR l size align limit).2 = true
  · obtain ⟨g1, g2⟩ := first_take q.toNat hf
    rw [if_pos hf, if_pos g1, if_pos g2, first_more (limit' := limit + 7) (by omega) (by omega) hf, if_pos hf]
    simp
  · rw [if_neg hf]
theorem placeLess_walk (w : World) (A0 : Option Addr) (c0 : Nat) (l0 : List S30) (hr0 : Kd.C k30 w A0 l0.length l0) (hc0 : l0.length ≤ c0) (_hw0 : ∀ x ∈ l0, (Lit.int .i64 x.f0).wf = true ∧ (Lit.int .i64 x.f1).wf = true)
    (a1 : Int) (_w1 : (Lit.int .i64 a1).wf = true) (a2 : Int) (_w2 : (Lit.int .i64 a2).wf = true) (a3 : Int) (_w3 : (Lit.int .i64 a3).wf = true) (a4 : Int) (w4 : (Lit.int .i64 a4).wf = true) :
    Calls Try.prog 3 #[.slice A0 l0.length c0, .int .i64 a1, .int .i64 a2, .int .i64 a3, .int .i64 a4] w fun e w' => e = .returned (.bool true) ∧ Below w.heap.size w w' := by
  have hb := bounds_i64 w4
  exact rotalaw16_PlaceLess.calls 9 A0 c0 l0 a1 a2 a3 a4 true w hr0 hc0 (placeLess_plain l0 a1 a2 a3 a4 (by omega))
end Go.Proofs.Ytnbcnkpcmjkglaa
