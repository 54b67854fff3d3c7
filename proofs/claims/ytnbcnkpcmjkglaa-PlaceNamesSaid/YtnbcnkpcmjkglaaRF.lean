/- What the document's First and Fit answer: plain. -/
import Derived.Test.YtnbcnkpcmjkglaaPM
import Derived.Test.YtnbcnkpcmjkglaaI
namespace Go.Proofs.Ytnbcnkpcmjkglaa
open Go.RowKit Go.Proofs.Ytnbcnkpcmjkglaa.Px Go.Proofs.YtnbcnkpcmjkglaaW.PrintWords
theorem un_iff {l : List S30} {p : Int} : Un l p ↔ inB l p = false := by
  show ¬ InS (l.map toP) p ↔ _
  rw [← inB_iff]; simp
/-- The inner loop: is a place good? -/
theorem ref_in {l : List S30} {size align limit at_ : Int} {N : Nat} {r : Int × Bool} (hl : l.length ≤ 100) (h0 : 0 ≤ at_) (hs : 0 ≤ size) (hb : at_ + size ≤ 300) (ha : 1 ≤ align) (ha2 : align ≤ 1048576)
    (H : ∀ k, N ≤ k → rotaref16_First.l0 k l size align limit (at_ + align) = some r) :
    ∀ (d : Nat) (x : Int) (k : Nat), (d : Int) = at_ + size - x → at_ ≤ x → N + d + 200 ≤ k →
      (rotaref16_First.l1 k l size align limit at_ true x = some (at_, true) ∧ ∀ p, x ≤ p → p < at_ + size → Un l p) ∨ (rotaref16_First.l1 k l size align limit at_ true x = some r ∧ ∃ p, x ≤ p ∧ p < at_ + size ∧ ¬ Un l p)
  | 0, x, k, hd, hx, hk => by
    obtain ⟨k, rfl⟩ : ∃ j, k = j + 1 := ⟨k - 1, by omega⟩
    left
    rw [rotaref16_First.l1, wrap_in (x := at_ + size) (by omega) (by omega), if_neg (by omega), if_pos rfl]
    exact ⟨rfl, fun p h1 h2 => by omega⟩
  | d + 1, x, k, hd, hx, hk => by
    obtain ⟨k, rfl⟩ : ∃ j, k = j + 1 := ⟨k - 1, by omega⟩
    rw [rotaref16_First.l1, wrap_in (x := at_ + size) (by omega) (by omega), if_pos (by omega), if_pos rfl, in_f k l x (by omega) (by omega), Option.bind_some, wrap_in (x := x + 1) (by omega) (by omega)]
    cases hi : inB l x with
    | true =>
      right
      obtain ⟨k, rfl⟩ : ∃ j, k = j + 1 := ⟨k - 1, by omega⟩
      refine ⟨?_, x, by omega, by omega, fun h => by rw [un_iff, hi] at h; cases h⟩
      rw [rotaref16_First.l1, wrap_in (x := at_ + size) (by omega) (by omega), wrap_in (x := at_ + align) (by omega) (by omega)]
      simp only [Bool.not_true, Bool.false_eq_true, if_false]
      rw [H k (by omega)]
      split <;> rfl
    | false =>
      rcases ref_in hl h0 hs hb ha ha2 H d (x + 1) k (by omega) (by omega) (by omega) with ⟨h1, h2⟩ | ⟨h1, p, h2, h3, h4⟩
      · left
        refine ⟨h1, fun p hp hq => ?_⟩
        by_cases he : p = x
        · subst he; exact un_iff.2 hi
        · exact h2 p (by omega) hq
      · right
        exact ⟨h1, p, by omega, h3, h4⟩
/-- First from a multiple on. -/
def FromI (P : Int → Prop) (size align limit i : Int) (r : Int × Bool) : Prop :=
  (r.2 = true ∧ (∃ k : Int, i ≤ k ∧ r.1 = k * align) ∧ GoodAt P size limit r.1 ∧ ∀ k : Int, i ≤ k → GoodAt P size limit (k * align) → r.1 ≤ k * align) ∨ (r = (-1, false) ∧ ∀ k : Int, i ≤ k → ¬ GoodAt P size limit (k * align))
set_option maxRecDepth 10000 in
theorem ref_loop {l : List S30} {size align limit : Int} (hl : l.length ≤ 100) (hs : 0 ≤ size) (hs2 : size ≤ 1048576) (ha : 1 ≤ align) (ha2 : align ≤ 1048576) (hlim : limit ≤ 300) (hlim0 : 0 ≤ limit) :
    ∀ (m : Nat) (i : Int), 0 ≤ i → limit + 1 - i * align ≤ m → i * align ≤ 1048576 + 300 → ∃ r, (∀ k, m * 600 + 400 ≤ k → rotaref16_First.l0 k l size align limit (i * align) = some r) ∧ FromI (Un l) size align limit i r := by
  intro m
  induction m with
  | zero =>
    intro i hi hm hb
    have h0 : 0 ≤ i * align := Int.mul_nonneg hi (by omega)
    refine ⟨(-1, false), fun k hk => ?_, .inr ⟨rfl, fun j hj hg => ?_⟩⟩
    · obtain ⟨k, rfl⟩ : ∃ j, k = j + 1 := ⟨k - 1, by omega⟩
      rw [rotaref16_First.l0, wrap_in (x := i * align + size) (by omega) (by omega), if_neg (by omega)]
    · have := Int.mul_le_mul_of_nonneg_right hj (show 0 ≤ align by omega)
      have := hg.2.1
      omega
  | succ m ih =>
    intro i hi hm hb
    have h0 : 0 ≤ i * align := Int.mul_nonneg hi (by omega)
    by_cases hf : i * align + size ≤ limit
    · have he : (i + 1) * align = i * align + align := by rw [Int.add_mul, Int.one_mul]
      obtain ⟨r, hr, hspec⟩ := ih (i + 1) (by omega) (by rw [he]; omega) (by rw [he]; omega)
      rw [he] at hr
      have hin := fun k hk => ref_in (l := l) (size := size) (align := align) (limit := limit) (at_ := i * align) (N := m * 600 + 400) (r := r) hl h0 hs (by omega) ha ha2 hr size.toNat (i * align) k (by omega) (by omega) hk
      have hl0 : ∀ k, (m + 1) * 600 + 400 ≤ k → ∃ k', m * 600 + 400 + size.toNat + 200 ≤ k' ∧ rotaref16_First.l0 k l size align limit (i * align) = rotaref16_First.l1 k' l size align limit (i * align) true (i * align) := by
        intro k hk
        obtain ⟨k, rfl⟩ : ∃ j, k = j + 1 := ⟨k - 1, by omega⟩
        refine ⟨k, by omega, ?_⟩
        rw [rotaref16_First.l0, wrap_in (x := i * align + size) (by omega) (by omega), if_pos hf]
      by_cases hg : ∀ p, i * align ≤ p → p < i * align + size → Un l p
      · refine ⟨(i * align, true), fun k hk => ?_, .inl ⟨rfl, ⟨i, by omega, rfl⟩, ⟨h0, hf, hg⟩, fun j hj _ => Int.mul_le_mul_of_nonneg_right hj (by omega)⟩⟩
        obtain ⟨k', hk', e⟩ := hl0 k hk
        rw [e]
        rcases hin k' hk' with ⟨h1, _⟩ | ⟨_, p, h2, h3, h4⟩
        · exact h1
        · exact absurd (hg p h2 h3) h4
      · refine ⟨r, fun k hk => ?_, ?_⟩
        · obtain ⟨k', hk', e⟩ := hl0 k hk
          rw [e]
          rcases hin k' hk' with ⟨_, h2⟩ | ⟨h1, _⟩
          · exact absurd h2 hg
          · exact h1
        · have hno : ¬ GoodAt (Un l) size limit (i * align) := fun h => hg h.2.2
          rcases hspec with ⟨s1, ⟨k, hk, s2⟩, s3, s4⟩ | ⟨s1, s2⟩
          · refine .inl ⟨s1, ⟨k, by omega, s2⟩, s3, fun j hj hgj => ?_⟩
            by_cases hji : j = i
            · subst hji; exact absurd hgj hno
            · exact s4 j (by omega) hgj
          · refine .inr ⟨s1, fun j hj hgj => ?_⟩
            by_cases hji : j = i
            · subst hji; exact hno hgj
            · exact s2 j (by omega) hgj
    · refine ⟨(-1, false), fun k hk => ?_, .inr ⟨rfl, fun j hj hg => ?_⟩⟩
      · obtain ⟨k, rfl⟩ : ∃ j, k = j + 1 := ⟨k - 1, by omega⟩
        rw [rotaref16_First.l0, wrap_in (x := i * align + size) (by omega) (by omega), if_neg hf]
      · have := Int.mul_le_mul_of_nonneg_right hj (show 0 ≤ align by omega)
        have := hg.2.1
        omega
theorem refFirst_f (k : Nat) (l : List S30) (size align limit : Int) (hk : 190000 ≤ k) (hl : l.length ≤ 100) (hlim : ¬ (300 < limit ∧ limit ≤ 1048576)) : rotaref16_First.f k l size align limit = some (firstR l size align limit) := by
  unfold rotaref16_First.f
  rw [refMay_f, Option.bind_some]
  cases hm : mayB size align limit with
  | false =>
    rw [if_neg (by simp)]
    unfold firstR
    rw [hm, if_neg (by simp)]
  | true =>
    rw [if_pos rfl]
    have h := mayB_iff.1 hm
    obtain ⟨r, hr, hs⟩ := ref_loop (l := l) hl h.1.1 h.1.2 h.2.1.1 h.2.1.2 (limit := limit) (by omega) h.2.2.1 301 0 (by omega) (by simp; omega) (by simp)
    have := hr k (by omega)
    rw [Int.zero_mul] at this
    rw [this, (firstR_is hm).uniq hs]
theorem rd_at (pre : List Int) (s : Int) (suf : List Int) : rd (pre ++ s :: suf) (pre.length : Int) = s := by
  unfold rd
  simp
theorem lenI (pre : List Int) (s : Int) : ((pre.length : Int) + 1) = ((pre ++ [s]).length : Int) := by simp
theorem refFit_loop {align limit : Int} (hlim : ¬ (300 < limit ∧ limit ≤ 1048576)) (m : List Int) (hm : m.length ≤ 50) : ∀ (suf pre : List Int) (tk : List S30) (out : List Int) (k : Nat), m = pre ++ suf → (∀ n ∈ suf, mayB n align limit = true) → tk.length + suf.length ≤ 100 → out.length + suf.length ≤ 100 → 190000 + suf.length < k → rotaref16_Fit.l1 k m align limit tk out pre.length = some (fitL align limit tk out suf)
  | [], pre, tk, out, k, he, _, _, _, hk => by
    obtain ⟨k, rfl⟩ : ∃ j, k = j + 1 := ⟨k - 1, by omega⟩
    rw [rotaref16_Fit.l1, if_neg (by rw [he]; simp), fitL]
  | n :: suf, pre, tk, out, k, he, hmay, ht, ho, hk => by
    obtain ⟨k, rfl⟩ : ∃ j, k = j + 1 := ⟨k - 1, by omega⟩
    simp only [List.length_cons] at hk ht ho
    have hlen : m.length = pre.length + (suf.length + 1) := by rw [he]; simp
    have hrd : rd m (pre.length : Int) = n := by rw [he]; exact rd_at pre n suf
    have hn := hmay n (by simp)
    rw [rotaref16_Fit.l1, if_pos (by omega), if_pos (by omega), hrd, refFirst_f k tk n align limit (by omega) (by omega) hlim, Option.bind_some, fitL]
    by_cases h2 : (firstR tk n align limit).2 = true
    · have hb := firstR_bd hn h2
      have hl := mayB_iff.1 hn
      have ih := refFit_loop hlim m hm suf (pre ++ [n]) (tk ++ [⟨(firstR tk n align limit).1, (firstR tk n align limit).1 + n⟩]) (out ++ [(firstR tk n align limit).1]) k (by rw [he]; simp) (fun x hx => hmay x (List.mem_cons_of_mem _ hx)) (by simp; omega) (by simp; omega) (by omega)
      rw [← lenI] at ih
      rw [if_pos h2, if_pos h2, if_pos (by omega), if_pos (by omega), wrap_in (x := (firstR tk n align limit).1 + n) (by omega) (by omega), wrap_in (x := (pre.length : Int) + 1) (by omega) (by omega), ih]
    · rw [if_neg h2, if_neg h2]
theorem refMayAll_loop {align limit : Int} (l : List S30) (hl : l.length ≤ 50) (m : List Int) (hm : m.length ≤ 50) (hlim : ¬ (300 < limit ∧ limit ≤ 1048576)) (hAll : mayAll m align limit = true → ∀ n ∈ m, mayB n align limit = true) : ∀ (suf pre : List Int) (b : Bool) (k : Nat), m = pre ++ suf → (b && !suf.any (fun n => !mayB n align limit)) = mayAll m align limit → 190200 + suf.length < k → rotaref16_Fit.l0 k l m align limit b pre.length = some (fitR l m align limit)
  | [], pre, b, k, he, hb, hk => by
    obtain ⟨k, rfl⟩ : ∃ j, k = j + 1 := ⟨k - 1, by omega⟩
    rw [rotaref16_Fit.l0, if_neg (by rw [he]; simp)]
    simp only [List.any_nil, Bool.not_false, Bool.and_true] at hb
    unfold fitR
    cases b with
    | false => rw [← hb, if_neg (by simp), if_neg (by simp)]
    | true =>
      rw [← hb, if_pos rfl, if_pos rfl, if_pos (by simp; omega)]
      exact refFit_loop hlim m hm m [] l [] k rfl (hAll hb.symm) (by omega) (by simp; omega) (by omega)
  | n :: suf, pre, b, k, he, hb, hk => by
    obtain ⟨k, rfl⟩ : ∃ j, k = j + 1 := ⟨k - 1, by omega⟩
    simp only [List.length_cons] at hk
    have hlen : m.length = pre.length + (suf.length + 1) := by rw [he]; simp
    have hrd : rd m (pre.length : Int) = n := by rw [he]; exact rd_at pre n suf
    have ih := fun b' hb' => refMayAll_loop l hl m hm hlim hAll suf (pre ++ [n]) b' k (by rw [he]; simp) hb' (by omega)
    rw [← lenI] at ih
    rw [rotaref16_Fit.l0, if_pos (by omega), wrap_in (x := (pre.length : Int) + 1) (by omega) (by omega)]
    simp only [List.any_cons] at hb
    cases b with
    | false =>
      rw [if_neg (by simp)]
      exact ih false (by rw [← hb]; simp)
    | true =>
      rw [if_pos rfl, if_pos (by omega), hrd, refMay_f, Option.bind_some]
      exact ih _ (by rw [← hb]; simp)
theorem mayAll_all {m : List Int} {align limit : Int} (h : mayAll m align limit = true) : ∀ n ∈ m, mayB n align limit = true := by
  unfold mayAll at h
  simp only [Bool.and_eq_true, List.any_eq_false, Bool.not_eq_eq_eq_not, Bool.not_true] at h
  intro n hn
  have := h.2 n hn
  simpa using this
theorem refFit_f (k : Nat) (l : List S30) (m : List Int) (align limit : Int) (hk : 200000 ≤ k) (hl : l.length ≤ 50) (hm : m.length ≤ 50) (hlim : ¬ (300 < limit ∧ limit ≤ 1048576)) : rotaref16_Fit.f k l m align limit = some (fitR l m align limit) := by
  unfold rotaref16_Fit.f
  rw [refMay_f, Option.bind_some]
  exact refMayAll_loop l hl m hm hlim mayAll_all m [] (mayB 0 align limit) k rfl rfl (by omega)
theorem fit_f (k : Nat) (l : List S30) (m : List Int) (align limit : Int) (hl : l.length ≤ 1000000) (hm : m.length ≤ 1000000) : place_Fit.f k l m align limit = some (fitR l m align limit) := by
  unfold place_Fit.f
  rw [if_pos ⟨hl, hm⟩]
end Go.Proofs.Ytnbcnkpcmjkglaa
