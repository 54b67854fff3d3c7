/- The law PlaceFits. -/
import Derived.Test.YtnbcnkpcmjkglaaRF
import Derived.Test.YtnbcnkpcmjkglaaPF
import Derived.Test.YtnbcnkpcmjkglaaQf
namespace Go.Proofs.Ytnbcnkpcmjkglaa
open Go.RowKit Go.Proofs.Ytnbcnkpcmjkglaa.Px Go.Proofs.Ytnbcnkpcmjkglaa.Ql Go.Proofs.Ytnbcnkpcmjkglaa.Qf Go.Proofs.YtnbcnkpcmjkglaaW.PrintWords
theorem ints_loop : ∀ (suf pre : List Int) (k : Nat), suf.length < k → pre.length + suf.length ≤ 1000 → rotaref16_Ints.l0 k (pre ++ suf) (pre ++ suf) pre.length = some true
  | [], pre, k, hk, _ => by
    obtain ⟨k, rfl⟩ : ∃ j, k = j + 1 := ⟨k - 1, by omega⟩
    rw [rotaref16_Ints.l0, if_neg (by simp)]
  | s :: suf, pre, k, hk, hn => by
    obtain ⟨k, rfl⟩ : ∃ j, k = j + 1 := ⟨k - 1, by simp at hk; omega⟩
    simp only [List.length_cons] at hk hn
    have ih := ints_loop suf (pre ++ [s]) k (by omega) (by simp; omega)
    rw [← app_one, ← lenI] at ih
    rw [rotaref16_Ints.l0, if_pos (by simp; omega), if_pos (by omega), if_pos (by simp; omega), if_pos rfl, wrap_in (x := (pre.length : Int) + 1) (by omega) (by omega), ih]
theorem ints_f (k : Nat) (l : List Int) (hk : l.length < k) (hl : l.length ≤ 1000) : rotaref16_Ints.f k l l = some true := by
  unfold rotaref16_Ints.f
  rw [if_pos rfl]
  exact ints_loop l [] k hk (by simpa using hl)
theorem fitL_len {align limit : Int} : ∀ (suf : List Int) (tk : List S30) (out : List Int), (fitL align limit tk out suf).2 = 0 ∧ (fitL align limit tk out suf).1.length = out.length + suf.length ∨ fitL align limit tk out suf = ([], 160)
  | [], tk, out => by rw [fitL]; exact .inl ⟨rfl, rfl⟩
  | n :: suf, tk, out => by
    rw [fitL]
    split
    · rcases fitL_len suf _ _ with ⟨h, h2⟩ | h
      · exact .inl ⟨h, by rw [h2]; simp; omega⟩
      · exact .inr h
    · exact .inr rfl
theorem fitR_len {align limit : Int} (l : List S30) (m : List Int) : (fitR l m align limit).2 = 0 ∧ (fitR l m align limit).1.length = m.length ∨ ((fitR l m align limit).2 ≠ 0 ∧ (fitR l m align limit).1 = []) := by
  unfold fitR
  split
  · rcases fitL_len (align := align) (limit := limit) m l [] with ⟨h, h2⟩ | h
    · exact .inl ⟨h, by rw [h2]; simp⟩
    · rw [h]; exact .inr ⟨by decide, rfl⟩
  · exact .inr ⟨by decide, rfl⟩
theorem placeFits_plain (l : List S30) (size : Int) (m : List Int) (align limit : Int) : rotalaw16_PlaceFits.f 300000 l size m align limit = some true := by
  unfold rotalaw16_PlaceFits.f
  rw [great_f, Option.bind_some]
  cases hG : (decide (50 < l.length) || (decide (50 < m.length) || (decide (300 < limit) && decide (limit ≤ 1048576))))
  case true => rfl
  simp only [Bool.or_eq_false_iff, Bool.and_eq_false_iff, decide_eq_false_iff_not] at hG
  obtain ⟨hl, hm, hlim⟩ := hG
  have hlen : (fitR l m align limit).1.length ≤ 1000 := by
    rcases fitR_len (align := align) (limit := limit) l m with ⟨-, h⟩ | ⟨-, h⟩ <;> rw [h]
    · omega
    · simp
  rw [if_neg (by simp), Option.bind_some, if_pos (by simp; omega), Option.bind_some, List.nil_append, first_f _ _ _ _ _ (by omega), Option.bind_some, refFirst_f _ _ _ _ _ (by omega) (by omega) (by omega), Option.bind_some, fit_f _ _ _ _ _ (by omega) (by omega), Option.bind_some, refFit_f _ _ _ _ _ (by omega) (by omega) (by omega) (by omega), Option.bind_some, if_pos rfl, if_pos (by simp), ints_f _ _ (by omega) hlen, Option.bind_some, if_pos rfl, if_pos rfl, spans_f _ _ (by omega) (by omega)]
  rfl
theorem placeFits_walk (w : World) (A0 : Option Addr) (c0 : Nat) (l0 : List S30) (hr0 : Kd.C k30 w A0 l0.length l0) (hc0 : l0.length ≤ c0) (_hw0 : ∀ x ∈ l0, (Lit.int .i64 x.f0).wf = true ∧ (Lit.int .i64 x.f1).wf = true)
    (a1 : Int) (_w1 : (Lit.int .i64 a1).wf = true) (A2 : Option Addr) (c2 : Nat) (l2 : List Int) (hr2 : Kd.C (Kd.int .i64) w A2 l2.length l2) (hc2 : l2.length ≤ c2) (_hl2 : l2.length * 8 ≤ 140737488351232) (_hw2 : ∀ x ∈ l2, (Lit.int .i64 x).wf = true) (a3 : Int) (_w3 : (Lit.int .i64 a3).wf = true) (a4 : Int) (_w4 : (Lit.int .i64 a4).wf = true) :
    Calls Try.prog 5 #[.slice A0 l0.length c0, .int .i64 a1, .slice A2 l2.length c2, .int .i64 a3, .int .i64 a4] w fun e w' => e = .returned (.bool true) ∧ Below w.heap.size w w' :=
  rotalaw16_PlaceFits.calls 300000 A0 c0 l0 a1 A2 c2 l2 a3 a4 true w hr0 hc0 hr2 hc2 (placeFits_plain l0 a1 l2 a3 a4)
end Go.Proofs.Ytnbcnkpcmjkglaa
