/- The law PlaceApart. -/
import Derived.Test.YtnbcnkpcmjkglaaFT
import Derived.Test.YtnbcnkpcmjkglaaQp
namespace Go.Proofs.Ytnbcnkpcmjkglaa
open Go.RowKit Go.Proofs.Ytnbcnkpcmjkglaa.Px Go.Proofs.Ytnbcnkpcmjkglaa.Ql Go.Proofs.Ytnbcnkpcmjkglaa.Qp Go.Proofs.YtnbcnkpcmjkglaaW.PrintWords
set_option linter.unusedSectionVars false
/-- What is placed is behind what has come. -/
theorem fitL_pre {align limit : Int} : ∀ (suf : List Int) (tk : List S30) (out : List Int), (fitL align limit tk out suf).2 = 0 → ∃ r, (fitL align limit tk out suf).1 = out ++ r ∧ r.length = suf.length
  | [], tk, out, _ => ⟨[], by rw [fitL]; simp, rfl⟩
  | n :: suf, tk, out, h => by
    rw [fitL] at h ⊢
    split at h
    · rename_i h2
      rw [if_pos h2]
      obtain ⟨r, h3, h4⟩ := fitL_pre suf _ _ h
      exact ⟨_ :: r, by rw [h3, List.append_assoc]; rfl, by simp [h4]⟩
    · cases h
section
variable {m at_ : List Int} {align limit : Int} (ha : 1 ≤ align ∧ align ≤ 1048576) (hlim : 0 ≤ limit ∧ limit ≤ 300) (hm : m.length ≤ 50)
include ha hlim hm
/-- The loops of one place: a the place, n the size, i its number. -/
theorem ap3 {tk : List S30} (ht : tk.length ≤ 200) {i : Nat} {n x : Int} {N : Nat} {b0 : Bool} (hi : i < m.length) (hn : rd m (i : Int) = n) (hn0 : 0 ≤ n) (hx0 : 0 ≤ x) (hxn : x + n ≤ 300)
    (H : ∀ k, N ≤ k → rotalaw16_PlaceApart.l2 k m align limit true at_ tk i (x + align) = some b0) :
    ∀ (d : Nat) (y : Int) (f : Bool) (k : Nat), (d : Int) = x + n - y → x ≤ y → N + d + 300 ≤ k → (f = true → ∃ p, y ≤ p ∧ p < x + n ∧ ¬ Un tk p) → rotalaw16_PlaceApart.l3 k m align limit true at_ tk i x f y = some b0
  | 0, y, f, k, hd, hy, hk, hf => by
    obtain ⟨k, rfl⟩ : ∃ j, k = j + 1 := ⟨k - 1, by omega⟩
    have hff : f = false := by
      cases f with
      | false => rfl
      | true => obtain ⟨p, h1, h2, _⟩ := hf rfl; omega
    subst hff
    rw [rotalaw16_PlaceApart.l3, if_pos (by omega), if_pos (by omega), hn, wrap_in (x := x + n) (by omega) (by omega), if_neg (by omega), if_neg (by simp), wrap_in (x := x + align) (by omega) (by omega), H k (by omega)]
  | d + 1, y, f, k, hd, hy, hk, hf => by
    obtain ⟨k, rfl⟩ : ∃ j, k = j + 1 := ⟨k - 1, by omega⟩
    rw [rotalaw16_PlaceApart.l3, if_pos (by omega), if_pos (by omega), hn, wrap_in (x := x + n) (by omega) (by omega), if_pos (by omega), wrap_in (x := y + 1) (by omega) (by omega)]
    cases f with
    | false =>
      rw [if_neg (by simp)]
      exact ap3 ht hi hn hn0 hx0 hxn H d (y + 1) false k (by omega) (by omega) (by omega) (fun h => by cases h)
    | true =>
      rw [if_pos rfl, in_f k tk y (by omega) (by omega), Option.bind_some]
      refine ap3 ht hi hn hn0 hx0 hxn H d (y + 1) _ k (by omega) (by omega) (by omega) (fun h => ?_)
      obtain ⟨p, h1, h2, h3⟩ := hf rfl
      refine ⟨p, ?_, h2, h3⟩
      have hu : Un tk y := un_iff.2 (by simpa using h)
      by_cases he : p = y
      · subst he; exact absurd hu h3
      · omega
theorem ap2 {tk : List S30} (ht : tk.length ≤ 200) {i : Nat} {n a : Int} {N : Nat} {b0 : Bool} (hi : i < m.length) (hia : i < at_.length) (hn : rd m (i : Int) = n) (hna : rd at_ (i : Int) = a) (hn0 : 0 ≤ n) (ha0 : 0 ≤ a) (han : a + n ≤ limit)
    (hno : ∀ j : Int, 0 ≤ j → j * align < a → ¬ GoodAt (Un tk) n limit (j * align))
    (H : ∀ k, N ≤ k → rotalaw16_PlaceApart.l0 k m align limit true at_ (tk ++ [⟨a, a + n⟩]) ((i : Int) + 1) = some b0) :
    ∀ (d : Nat) (j : Int), 0 ≤ j → a - j * align ≤ d → j * align ≤ 1048576 + 300 → ∀ k, N + d * 1000 + 1000 ≤ k → rotalaw16_PlaceApart.l2 k m align limit true at_ tk i (j * align) = some b0 := by
  intro d
  induction d with
  | zero =>
    intro j hj hd hb k hk
    obtain ⟨k, rfl⟩ : ∃ j, k = j + 1 := ⟨k - 1, by omega⟩
    rw [rotalaw16_PlaceApart.l2, if_pos (by omega), if_pos (by omega), hna, if_neg (by omega), if_pos (by omega), if_pos (by omega), hn, wrap_in (x := a + n) (by omega) (by omega), wrap_in (x := (i : Int) + 1) (by omega) (by omega), H k (by omega)]
  | succ d ih =>
    intro j hj hd hb k hk
    have hj0 : 0 ≤ j * align := Int.mul_nonneg hj (by omega)
    obtain ⟨k, rfl⟩ : ∃ j, k = j + 1 := ⟨k - 1, by omega⟩
    by_cases hlt : j * align < a
    · have he : (j + 1) * align = j * align + align := by rw [Int.add_mul, Int.one_mul]
      have hng := hno j hj hlt
      have hp : ∃ p, j * align ≤ p ∧ p < j * align + n ∧ ¬ Un tk p := by
        refine Classical.byContradiction fun hc => hng ⟨hj0, by omega, fun p h1 h2 => ?_⟩
        exact Classical.byContradiction fun h3 => hc ⟨p, h1, h2, h3⟩
      rw [rotalaw16_PlaceApart.l2, if_pos (by omega), if_pos (by omega), hna, if_pos hlt]
      refine ap3 (b0 := b0) (N := N + d * 1000 + 1000) ha hlim hm ht hi hn hn0 hj0 (by omega) (fun k' hk' => ?_) n.toNat (j * align) true k (by omega) (by omega) (by omega) (fun _ => hp)
      have := ih (j + 1) (by omega) (by rw [he]; omega) (by rw [he]; omega) k' hk'
      rw [he] at this
      exact this
    · rw [rotalaw16_PlaceApart.l2, if_pos (by omega), if_pos (by omega), hna, if_neg hlt, if_pos (by omega), if_pos (by omega), hn, wrap_in (x := a + n) (by omega) (by omega), wrap_in (x := (i : Int) + 1) (by omega) (by omega), H k (by omega)]
theorem ap1 {tk : List S30} (ht : tk.length ≤ 200) {i : Nat} {n a : Int} {N : Nat} {b0 : Bool} (hi : i < m.length) (hia : i < at_.length) (hn : rd m (i : Int) = n) (hna : rd at_ (i : Int) = a) (hn0 : 0 ≤ n) (ha0 : 0 ≤ a) (han : a + n ≤ limit)
    (hg : ∀ p, a ≤ p → p < a + n → Un tk p)
    (H : ∀ k, N ≤ k → rotalaw16_PlaceApart.l2 k m align limit true at_ tk i 0 = some b0) :
    ∀ (d : Nat) (x : Int) (k : Nat), (d : Int) = a + n - x → a ≤ x → N + d + 300 ≤ k → rotalaw16_PlaceApart.l1 k m align limit true at_ tk i x = some b0
  | 0, x, k, hd, hx, hk => by
    obtain ⟨k, rfl⟩ : ∃ j, k = j + 1 := ⟨k - 1, by omega⟩
    rw [rotalaw16_PlaceApart.l1, if_pos (by omega), if_pos (by omega), if_pos (by omega), hna, hn, wrap_in (x := a + n) (by omega) (by omega), if_neg (by omega), H k (by omega)]
  | d + 1, x, k, hd, hx, hk => by
    obtain ⟨k, rfl⟩ : ∃ j, k = j + 1 := ⟨k - 1, by omega⟩
    rw [rotalaw16_PlaceApart.l1, if_pos (by omega), if_pos (by omega), if_pos (by omega), hna, hn, wrap_in (x := a + n) (by omega) (by omega), if_pos (by omega), in_f k tk x (by omega) (by omega), Option.bind_some, un_iff.1 (hg x hx (by omega)), if_neg (by simp), wrap_in (x := x + 1) (by omega) (by omega)]
    exact ap1 ht hi hia hn hna hn0 ha0 han hg H d (x + 1) k (by omega) (by omega) (by omega)
end
set_option maxRecDepth 100000 in
theorem ap0 {m at_ : List Int} {align limit : Int} (ha : 1 ≤ align ∧ align ≤ 1048576) (hlim : 0 ≤ limit ∧ limit ≤ 300) (hm : m.length ≤ 50) (hat : at_.length = m.length) :
    ∀ (suf pre out : List Int) (tk : List S30) (k : Nat), m = pre ++ suf → out.length = pre.length → (∀ n ∈ suf, mayB n align limit = true) → tk.length + suf.length ≤ 150 → fitL align limit tk out suf = (at_, 0) → 1000 + suf.length * 400000 ≤ k → rotalaw16_PlaceApart.l0 k m align limit true at_ tk pre.length = some true := by
  intro suf
  induction suf with
  | nil =>
    intro pre out tk k he ho hmay ht hf hk
    obtain ⟨k, rfl⟩ : ∃ j, k = j + 1 := ⟨k - 1, by omega⟩
    rw [rotalaw16_PlaceApart.l0, if_neg (by rw [hat, he]; simp)]
  | cons n suf ihs =>
    intro pre out tk k he ho hmay ht hf hk
    simp only [List.length_cons] at hk ht
    obtain ⟨k, rfl⟩ : ∃ j, k = j + 1 := ⟨k - 1, by omega⟩
    have hlen : m.length = pre.length + (suf.length + 1) := by rw [he]; simp
    have hn : rd m (pre.length : Int) = n := by rw [he]; exact rd_at pre n suf
    have hmn := hmay n (by simp)
    have hmb := mayB_iff.1 hmn
    rw [fitL] at hf
    split at hf
    case isFalse => cases hf
    rename_i h2
    have hfi := firstR_is (l := tk) hmn
    obtain ⟨a, ha'⟩ : ∃ a, a = (firstR tk n align limit).1 := ⟨_, rfl⟩
    rw [← ha'] at hf
    obtain ⟨r, hr, hrl⟩ := fitL_pre suf (tk ++ [⟨a, a + n⟩]) (out ++ [a]) (by rw [hf])
    rw [hf] at hr
    have hna : rd at_ (pre.length : Int) = a := by
      have hr' : at_ = out ++ a :: r := by
        have : at_ = out ++ [a] ++ r := hr
        rw [this]; simp
      rw [hr', ← ho]
      exact rd_at out a r
    rcases hfi with ⟨-, ⟨q, hq, hqa⟩, hgood, hmin⟩ | ⟨e, -⟩
    · rw [← ha'] at hqa hgood hmin
      have ha0 := hgood.1
      have han := hgood.2.1
      have ih := fun k' hk' => ihs (pre ++ [n]) (out ++ [a]) (tk ++ [⟨a, a + n⟩]) k' (by rw [he]; simp) (by simp [ho]) (fun x hx => hmay x (List.mem_cons_of_mem _ hx)) (by simp; omega) hf hk'
      rw [← lenI] at ih
      have hmod : Int.tmod a align = 0 := by rw [hqa, Int.mul_tmod_left]
      obtain ⟨k, rfl⟩ : ∃ j, k = j + 1 := ⟨k - 1, by omega⟩
      rw [rotalaw16_PlaceApart.l0, if_pos (by omega), if_pos (by omega), hna, if_neg (by omega), if_neg (by omega), hmod, if_pos rfl, if_pos (by omega), hn, wrap_in (x := a + n) (by omega) (by omega), decide_eq_false (by omega), rotalaw16_PlaceApart.j2, if_neg (by simp), if_pos (by omega), if_pos (by omega), hna]
      refine ap1 (b0 := true) (N := 1000 + suf.length * 400000 + 301 * 1000 + 1000) ha hlim hm (by omega) (by omega) (by omega) hn hna hmb.1.1 ha0 han hgood.2.2 (fun k' hk' => ?_) n.toNat a k (by omega) (by omega) (by omega)
      have := ap2 (b0 := true) (N := 1000 + suf.length * 400000) (m := m) (at_ := at_) ha hlim hm (tk := tk) (by omega) (by omega) (by omega) hn hna hmb.1.1 ha0 han (fun j hj hjl hgj => by have := hmin j hj hgj; omega) ih 301 0 (by omega) (by simp; omega) (by simp) k' hk'
      rw [Int.zero_mul] at this
      exact this
    · rw [e] at h2; simp at h2
theorem placeApart_plain (l : List S30) (m : List Int) (align limit : Int) : rotalaw16_PlaceApart.f 30000000 l m align limit = some true := by
  obtain ⟨k0, hk0⟩ : ∃ k0 : Nat, k0 + 1 = 30000000 := ⟨29999999, rfl⟩
  rw [← hk0]
  unfold rotalaw16_PlaceApart.f
  rw [alive_f, Option.bind_some, great_f, Option.bind_some]
  cases hG : (decide (50 < l.length) || (decide (50 < m.length) || (decide (300 < limit) && decide (limit ≤ 1048576))))
  case true => rw [if_pos rfl, rotalaw16_PlaceApart.j0, if_pos rfl]
  simp only [Bool.or_eq_false_iff, Bool.and_eq_false_iff, decide_eq_false_iff_not] at hG
  obtain ⟨hl, hm, hlim⟩ := hG
  rw [if_neg (by simp), rotalaw16_PlaceApart.j0, if_neg (by simp), fit_f _ _ _ _ _ (by omega) (by omega), Option.bind_some]
  rcases fitR_len (align := align) (limit := limit) l m with ⟨h1, h2⟩ | ⟨h1, h2⟩
  · rw [if_pos h1, if_pos (by rw [h2]), if_pos (by simp; omega), List.nil_append]
    unfold fitR at h1 h2 ⊢
    split at h1
    case isFalse => cases h1
    rename_i hall
    rw [if_pos hall] at h2 ⊢
    have h0 : mayB 0 align limit = true := by
      unfold mayAll at hall
      rw [Bool.and_eq_true] at hall
      exact hall.1
    have hb := mayB_iff.1 h0
    exact ap0 hb.2.1 ⟨hb.2.2.1, by omega⟩ (by omega) h2 m [] [] l k0 rfl rfl (mayAll_all hall) (by omega) (by rw [← h1]) (by omega)
  · rw [if_neg h1, if_pos rfl, h2]
    rfl
theorem placeApart_walk (w : World) (A0 : Option Addr) (c0 : Nat) (l0 : List S30) (hr0 : Kd.C k30 w A0 l0.length l0) (hc0 : l0.length ≤ c0) (_hw0 : ∀ x ∈ l0, (Lit.int .i64 x.f0).wf = true ∧ (Lit.int .i64 x.f1).wf = true)
    (A1 : Option Addr) (c1 : Nat) (l1 : List Int) (hr1 : Kd.C (Kd.int .i64) w A1 l1.length l1) (hc1 : l1.length ≤ c1) (_hl1 : l1.length * 8 ≤ 140737488351232) (_hw1 : ∀ x ∈ l1, (Lit.int .i64 x).wf = true) (a2 : Int) (_w2 : (Lit.int .i64 a2).wf = true) (a3 : Int) (_w3 : (Lit.int .i64 a3).wf = true) :
    Calls Try.prog 6 #[.slice A0 l0.length c0, .slice A1 l1.length c1, .int .i64 a2, .int .i64 a3] w fun e w' => e = .returned (.bool true) ∧ Below w.heap.size w w' :=
  rotalaw16_PlaceApart.calls 30000000 A0 c0 l0 A1 c1 l1 a2 a3 true w hr0 hc0 hr1 hc1 (placeApart_plain l0 l1 a2 a3)
end Go.Proofs.Ytnbcnkpcmjkglaa
