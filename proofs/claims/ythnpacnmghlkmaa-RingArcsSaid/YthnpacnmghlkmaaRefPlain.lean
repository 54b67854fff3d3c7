/- The document's answers on arcs, in plain Lean. -/
import Derived.Test.YthnpacnmghlkmaaRoomFacts
import Derived.Test.YthnpacnmghlkmaaPx7
import Derived.Test.YthnpacnmghlkmaaPx8
namespace Go.Proofs.Ythnpacnmghlkmaa.Arcs
open Go.RowKit Go.Proofs.Ythnpacnmghlkmaa Go.Proofs.Ythnpacnmghlkmaa.Room Go.Proofs.Ythnpacnmghlkmaa.Px Go.Proofs.YthnpacnmghlkmaaW.PrintWords Go.Proofs.YthnpacnmghlkmaaW.PrintMore

/-- A list of counts, place by place. -/
def Cnt (n : Int) (t : List Int) (g : Int → Int) : Prop := t.length = n.toNat ∧ ∀ p : Int, 0 ≤ p → p < n → rd t p = g p
def cnt (n : Int) (l : List S52) (p : Int) : Int := ((l.filter (fun a => inArc n a p)).length : Nat)
theorem rd_set (t : List Int) (q p v : Int) (hq : 0 ≤ q) (hq2 : q < t.length) (hp : 0 ≤ p) : rd (t.set q.toNat v) p = if p = q then v else rd t p := by
  have h1 : q.toNat < t.length := by omega
  unfold rd
  simp only [List.getD_eq_getElem?_getD, List.getElem?_set]
  by_cases h : p = q
  · subst h; simp [h1]
  · have : ¬ q.toNat = p.toNat := by omega
    simp [h, this]
theorem taken_arc (n : Int) (hn : 1 ≤ n) (hn2 : n ≤ 1048576) (l : List S52) (x : Nat) (hx : x < l.length) (hl : l.length ≤ 1000) (ha : ArcOk n (rd_T52 l x)) (g : Int → Int) (hg : ∀ p, 0 ≤ g p ∧ g p ≤ 1000000) :
    ∀ (d k j : Nat) (t : List Int), (rd_T52 l x).f1 - j = d → d < k → Cnt n t (fun p => g p + if (p - (rd_T52 l x).f0) % n < j then 1 else 0) →
      ∃ t', Cnt n t' (fun p => g p + if inArc n (rd_T52 l x) p = true then 1 else 0) ∧ rotaref13_Taken.l1 k l n t x j = rotaref13_Taken.l0 (k - d - 1) l n t' ((x + 1 : Nat) : Int) := by
  obtain ⟨b0, b1, b2, b3⟩ := ha
  intro d
  induction d with
  | zero =>
    intro k j t hd hk ht
    obtain ⟨k, rfl⟩ : ∃ m, k = m + 1 := ⟨k - 1, by omega⟩
    refine ⟨t, ⟨ht.1, fun p h0 h1 => ?_⟩, ?_⟩
    · rw [ht.2 p h0 h1]
      unfold inArc
      rw [show (j : Int) = (rd_T52 l x).f1 by omega]
      simp
    · simp only [rotaref13_Taken.l1]
      rw [if_pos (by omega), if_pos (by omega), if_neg (by omega), wrap_in _ (by omega) (by omega)]
      simp
  | succ d ih =>
    intro k j t hd hk ht
    obtain ⟨k, rfl⟩ : ∃ m, k = m + 1 := ⟨k - 1, by omega⟩
    have q0 := Int.emod_nonneg ((rd_T52 l x).f0 + j) (b := n) (by omega)
    have q1 := Int.emod_lt_of_pos ((rd_T52 l x).f0 + j) (b := n) (by omega)
    obtain ⟨t1, t2⟩ := ht
    have hrd := t2 _ q0 q1
    have hz : (((rd_T52 l x).f0 + j) % n - (rd_T52 l x).f0) % n = j := by
      rw [Int.emod_sub_emod, show (rd_T52 l x).f0 + (j : Int) - (rd_T52 l x).f0 = j by omega]
      exact Int.emod_eq_of_lt (by omega) (by omega)
    have hg1 := hg (((rd_T52 l x).f0 + j) % n)
    simp only [hz] at hrd
    rw [if_neg (by omega)] at hrd
    simp only [rotaref13_Taken.l1]
    rw [if_pos (by omega), if_pos (by omega), if_pos (by omega), wrap_in ((rd_T52 l x).f0 + j) (by omega) (by omega), refPlace_eq _ n hn (by omega), Option.bind_some, if_pos q0, if_pos (by omega), wrap_in (_ + 1) (by omega) (by omega), wrap_in _ (by omega) (by omega), show (j : Int) + 1 = ((j + 1 : Nat) : Int) by omega]
    obtain ⟨t', ht', he⟩ := ih k (j + 1) (t.set (((rd_T52 l x).f0 + j) % n).toNat (rd t (((rd_T52 l x).f0 + j) % n) + 1)) (by omega) (by omega) ⟨by simpa using t1, fun p h0 h1 => by
      rw [rd_set t _ p _ q0 (by omega) h0]
      by_cases hpq : p = ((rd_T52 l x).f0 + j) % n
      · rw [if_pos hpq, hrd]
        simp only [hpq, hz]
        rw [if_pos (by omega)]; omega
      · rw [if_neg hpq, t2 p h0 h1]
        have hne : (p - (rd_T52 l x).f0) % n ≠ j := fun e => hpq (by
          rw [← e, Int.add_emod_emod, show (rd_T52 l x).f0 + (p - (rd_T52 l x).f0) = p by omega, Int.emod_eq_of_lt h0 h1])
        simp only
        by_cases hlt : (p - (rd_T52 l x).f0) % n < j
        · rw [if_pos hlt, if_pos (by omega)]
        · rw [if_neg hlt, if_neg (by omega)]⟩
    exact ⟨t', ht', by rw [he]; congr 1; omega⟩
theorem cnt_cons (n : Int) (a : S52) (l : List S52) (p : Int) : cnt n (a :: l) p = (if inArc n a p = true then 1 else 0) + cnt n l p := by
  unfold cnt
  rw [List.filter_cons]
  split <;> simp <;> omega
theorem cnt_bound (n : Int) (l : List S52) (p : Int) : 0 ≤ cnt n l p ∧ cnt n l p ≤ l.length := by
  unfold cnt
  have := List.length_filter_le (fun a => inArc n a p) l
  omega
theorem taken_arcs (n : Int) (hn : 1 ≤ n) (hn2 : n ≤ 1048576) (l : List S52) (hl : l.length ≤ 1000) (h : ∀ a ∈ l, ArcOk n a) : ∀ (D k x : Nat) (t : List Int) (g : Int → Int), l.length - x = D → x ≤ l.length → D * (n.toNat + 2) < k → (∀ p, 0 ≤ g p ∧ g p ≤ 1000 * x) → Cnt n t g →
    ∃ t', Cnt n t' (fun p => g p + cnt n (l.drop x) p) ∧ rotaref13_Taken.l0 k l n t x = some t' := by
  intro D
  induction D with
  | zero =>
    intro k x t g hD hx hk hg ht
    obtain ⟨k, rfl⟩ : ∃ m, k = m + 1 := ⟨k - 1, by omega⟩
    refine ⟨t, ⟨ht.1, fun p h0 h1 => ?_⟩, ?_⟩
    · rw [ht.2 p h0 h1, List.drop_of_length_le (by omega)]; simp [cnt]
    · simp only [rotaref13_Taken.l0]; rw [if_neg (by omega)]
  | succ D ih =>
    intro k x t g hD hx hk hg ht
    obtain ⟨k, rfl⟩ : ∃ m, k = m + 1 := ⟨k - 1, by omega⟩
    rw [Nat.succ_mul] at hk
    have hmem := rd_mem (l := l) (x := (x : Int)) (by omega) (by omega)
    have hok := h _ hmem
    obtain ⟨b0, b1, b2, b3⟩ := hok
    obtain ⟨t1, ht1, he⟩ := taken_arc n hn hn2 l x (by omega) hl ⟨b0, b1, b2, b3⟩ g (fun p => ⟨(hg p).1, by have := (hg p).2; omega⟩) (rd_T52 l x).f1.toNat k 0 t (by omega) (by omega) ⟨ht.1, fun p h0 h1 => by
      rw [ht.2 p h0 h1]
      have := Int.emod_nonneg (p - (rd_T52 l x).f0) (b := n) (by omega)
      simp only
      rw [if_neg (by omega)]; omega⟩
    obtain ⟨t2, ht2, he2⟩ := ih (k - (rd_T52 l x).f1.toNat - 1) (x + 1) t1 _ (by omega) (by omega) (by omega) (fun p => by
      have := hg p
      show 0 ≤ g p + (if inArc n (rd_T52 l x) p = true then 1 else 0) ∧ g p + (if inArc n (rd_T52 l x) p = true then 1 else 0) ≤ 1000 * ((x + 1 : Nat) : Int)
      split <;> omega) ht1
    refine ⟨t2, ⟨ht2.1, fun p h0 h1 => ?_⟩, ?_⟩
    · rw [ht2.2 p h0 h1, drop_rd (x := x) (l := l) (by omega)]
      show g p + (if inArc n (rd_T52 l x) p = true then 1 else 0) + cnt n (l.drop (x + 1)) p = g p + cnt n (rd_T52 l x :: l.drop (x + 1)) p
      rw [cnt_cons]; omega
    · simp only [rotaref13_Taken.l0]
      rw [if_pos (by omega)]
      have hcast : ((0 : Nat) : Int) = 0 := rfl
      rw [hcast] at he
      rw [he, he2]
theorem taken_spec (n : Int) (hn : 1 ≤ n) (hn2 : n ≤ 1048576) (l : List S52) (hl : l.length ≤ 1000) (h : ∀ a ∈ l, ArcOk n a) (k : Nat) (hk : l.length * (n.toNat + 2) < k) : ∃ t, Cnt n t (cnt n l) ∧ rotaref13_Taken.f k l n = some t := by
  obtain ⟨t, ht, he⟩ := taken_arcs n hn hn2 l hl h l.length k 0 (List.replicate n.toNat 0) (fun _ => 0) (by omega) (by omega) hk (fun p => by omega) ⟨by simp, fun p h0 h1 => by
    unfold rd
    simp only [List.getD_eq_getElem?_getD, List.getElem?_replicate]
    split <;> rfl⟩
  refine ⟨t, ⟨ht.1, fun p h0 h1 => by rw [ht.2 p h0 h1]; simp⟩, ?_⟩
  unfold rotaref13_Taken.f
  rw [if_pos (by omega), if_pos (by omega)]
  exact he
theorem cnt_pos (n : Int) (l : List S52) (p : Int) : (cnt n l p > 0) ↔ cov n l p = true := by
  induction l with
  | nil => simp [cnt, cov]
  | cons a l ih =>
    rw [cnt_cons]
    have hb := cnt_bound n l p
    unfold cov at *
    rw [List.any_cons]
    by_cases h : inArc n a p = true
    · rw [if_pos h, h]; simp; omega
    · rw [if_neg h, show inArc n a p = false by simpa using h, Bool.false_or, ← ih]; omega
/-! The document's 'Fit' -/
theorem refFit_window (n : Int) (hn : 1 ≤ n) (hn2 : n ≤ 1048576) (C : Int → Bool) (hper : ∀ x, C (x % n) = C x) (t : List Int) (ht : t.length = n.toNat) (hC : ∀ p, 0 ≤ p → p < n → ((rd t p == 0) = !C p)) (size : Nat) (hs : (size : Int) ≤ n) (from_ : Nat) (hf : (from_ : Int) < n) :
    ∀ (d k j : Nat), size - j = d → j ≤ size → d + 1 < k → (∀ i : Nat, i < j → C (from_ + i) = false) → (rotaref13_Fit.l1 k size n t from_ true j = some (from_ : Int) ∧ size ≤ run C from_ n.toNat) ∨ (run C from_ n.toNat < size ∧ ∃ k', k ≤ k' + d + 2 ∧ rotaref13_Fit.l1 k size n t from_ true j = rotaref13_Fit.l0 k' size n t ((from_ + 1 : Nat) : Int)) := by
  intro d
  induction d with
  | zero =>
    intro k j hd hj hk hfree
    obtain ⟨k, rfl⟩ : ∃ m, k = m + 1 := ⟨k - 1, by omega⟩
    left
    refine ⟨?_, run_ge C size n.toNat from_ (by omega) (fun i hi => hfree i (by omega))⟩
    simp only [rotaref13_Fit.l1]
    rw [if_neg (by omega)]
    simp
  | succ d ih =>
    intro k j hd hj hk hfree
    obtain ⟨k, rfl⟩ : ∃ m, k = m + 1 := ⟨k - 1, by omega⟩
    have q0 := Int.emod_nonneg ((from_ : Int) + j) (b := n) (by omega)
    have q1 := Int.emod_lt_of_pos ((from_ : Int) + j) (b := n) (by omega)
    simp only [rotaref13_Fit.l1]
    rw [if_pos (by omega)]
    simp only [if_pos]
    rw [wrap_in ((from_ : Int) + j) (by omega) (by omega), refPlace_eq _ n hn (by omega), Option.bind_some, if_pos q0, if_pos (by omega), wrap_in _ (by omega) (by omega), show (j : Int) + 1 = ((j + 1 : Nat) : Int) by omega, hC _ q0 q1, hper]
    by_cases hc : C (from_ + j) = true
    · right
      refine ⟨?_, ?_⟩
      · by_cases hr : run C from_ n.toNat < size
        · exact hr
        · have := run_free C n.toNat from_ j (by omega)
          rw [hc] at this; cases this
      · rw [hc]
        obtain ⟨k, rfl⟩ : ∃ m, k = m + 1 := ⟨k - 1, by omega⟩
        refine ⟨k, by omega, ?_⟩
        simp only [rotaref13_Fit.l1, Bool.not_true, Bool.false_eq_true, if_false, ite_self]
        rw [wrap_in _ (by omega) (by omega), show (from_ : Int) + 1 = ((from_ + 1 : Nat) : Int) by omega]
    · rw [Bool.not_eq_true] at hc
      rw [hc]
      rcases ih k (j + 1) (by omega) (by omega) (by omega) (fun i hi => by
        by_cases hij : i = j
        · subst hij; exact hc
        · exact hfree i (by omega)) with h | ⟨h1, k', h2, h3⟩
      · exact .inl h
      · exact .inr ⟨h1, k', by omega, h3⟩
theorem refFit_loop (n : Int) (hn : 1 ≤ n) (hn2 : n ≤ 1048576) (C : Int → Bool) (hper : ∀ x, C (x % n) = C x) (t : List Int) (ht : t.length = n.toNat) (hC : ∀ p, 0 ≤ p → p < n → ((rd t p == 0) = !C p)) (size : Nat) (hs : (size : Int) ≤ n) :
    ∀ (D k x : Nat), n.toNat - x = D → x ≤ n.toNat → D * (size + 4) + 1 < k → (∃ r : Int, rotaref13_Fit.l0 k size n t x = some r ∧ ((r = -1 ∧ ∀ p : Nat, x ≤ p → p < n.toNat → run C p n.toNat < size) ∨ (∃ q : Nat, r = q ∧ x ≤ q ∧ q < n.toNat ∧ size ≤ run C q n.toNat ∧ ∀ p : Nat, x ≤ p → p < q → run C p n.toNat < size))) := by
  intro D
  induction D with
  | zero =>
    intro k x hD hx hk
    obtain ⟨k, rfl⟩ : ∃ m, k = m + 1 := ⟨k - 1, by omega⟩
    refine ⟨-1, ?_, .inl ⟨rfl, fun p h1 h2 => by omega⟩⟩
    simp only [rotaref13_Fit.l0]
    rw [if_neg (by omega)]
  | succ D ih =>
    intro k x hD hx hk
    obtain ⟨k, rfl⟩ : ∃ m, k = m + 1 := ⟨k - 1, by omega⟩
    rw [Nat.succ_mul] at hk
    simp only [rotaref13_Fit.l0]
    rw [if_pos (by omega)]
    rcases refFit_window n hn hn2 C hper t ht hC size hs x (by omega) size k 0 (by omega) (by omega) (by omega) (fun i hi => by omega) with ⟨h, hr⟩ | ⟨h1, k', h2, h3⟩
    · exact ⟨x, h, .inr ⟨x, rfl, Nat.le_refl _, by omega, hr, fun p _ _ => by omega⟩⟩
    · obtain ⟨r, hr, hor⟩ := ih k' (x + 1) (by omega) (by omega) (by omega)
      refine ⟨r, h3.trans hr, ?_⟩
      rcases hor with ⟨e, ha⟩ | ⟨q, e, hxq, hq, hrun, ha⟩
      · refine .inl ⟨e, fun p hp hpn => ?_⟩
        by_cases hpx : p = x
        · subst hpx; exact h1
        · exact ha p (by omega) hpn
      · refine .inr ⟨q, e, by omega, hq, hrun, fun p hp hpq => ?_⟩
        by_cases hpx : p = x
        · subst hpx; exact h1
        · exact ha p (by omega) hpq
theorem gapsOf_ok {n : Int} {l : List S52} (hn : 1 ≤ n) : ∀ a ∈ gapsOf n l, ArcOk n a := by
  unfold gapsOf
  rw [dif_pos hn]
  split
  · intro a ha
    rw [List.mem_singleton] at ha
    subst ha
    exact ⟨by simp, by simp; omega, by simp; omega, by simp⟩
  · exact gapsTo_ok _ (by omega)
def best (size n : Int) (l : List S52) : Int := (gapsOf n l).foldl (fitStep size n) (-1)
theorem fit_eq (k : Nat) (size n : Int) (l : List S52) (hl : l.length ≤ 35184372088832) (hk : l.length + 2 ≤ k) : ring_Fit.f k l size n = some (if mayB n l = true then (if best size n l < 0 then (0, 2) else (best size n l, 0)) else (0, 130)) := by
  unfold ring_Fit.f
  rw [gaps_eq k n l hl hk, Option.bind_some]
  by_cases h : mayB n l = true
  · rw [if_pos h, if_pos h]
    simp only [if_pos]
    unfold best
    split <;> rfl
  · rw [if_neg h, if_neg h]; rfl
theorem best_no (size n : Int) (hn : 1 ≤ n) (l : List S52) (h : size < 1 ∨ size > n) : best size n l = -1 := by
  obtain ⟨_, _, _, a4⟩ := fit_fold size n (gapsOf n l) (fun g hg => (gapsOf_ok hn g hg).1) (-1) (by omega)
  rcases a4 with e | ⟨g, hg, c1, c2, _⟩
  · exact e
  · have := (gapsOf_ok hn g hg).2.2.2; omega
theorem best_ge (size n : Int) (hn : 1 ≤ n) (l : List S52) : -1 ≤ best size n l :=
  (fit_fold size n (gapsOf n l) (fun g hg => (gapsOf_ok hn g hg).1) (-1) (by omega)).2.1
/-- The document's 'Fit' is the program's. -/
theorem refFit_eq (k : Nat) (size n : Int) (l : List S52) (hn : 1 ≤ n) (hn2 : n ≤ 1000) (hl : l.length ≤ 20) (h : ∀ a ∈ l, ArcOk n a) (hk : 1100000 ≤ k) : rotaref13_Fit.f k l size n = some (best size n l) := by
  obtain ⟨k, rfl⟩ : ∃ m, k = m + 1 := ⟨k - 1, by omega⟩
  have hl0 : ∀ a ∈ l, 0 ≤ a.f1 := fun a ha => (h a ha).2.2.1
  unfold rotaref13_Fit.f
  by_cases h1 : size < 1
  · rw [if_pos h1, best_no size n hn l (.inl h1)]; simp [rotaref13_Fit.j0]
  · rw [if_neg h1]
    by_cases h2 : size > n
    · rw [best_no size n hn l (.inr h2)]; simp [rotaref13_Fit.j0, h2]
    · obtain ⟨sz, rfl⟩ : ∃ sz : Nat, size = sz := ⟨size.toNat, by omega⟩
      have hm1 : l.length * (n.toNat + 2) ≤ 20 * 1002 := Nat.mul_le_mul hl (by omega)
      have hm2 : n.toNat * (sz + 4) ≤ 1000 * 1004 := Nat.mul_le_mul (by omega) (by omega)
      obtain ⟨t, ht, he⟩ := taken_spec n hn (by omega) l (by omega) h k (by omega)
      simp only [rotaref13_Fit.j0]
      rw [if_neg (by simpa using h2), he, Option.bind_some]
      have hC : ∀ p, 0 ≤ p → p < n → ((rd t p == 0) = !cov n l p) := fun p h0 h1 => by
        rw [ht.2 p h0 h1]
        have := cnt_pos n l p
        have hb := cnt_bound n l p
        cases hc : cov n l p
        · rw [hc] at this; simp at this ⊢; omega
        · rw [hc] at this; simp at this ⊢; omega
      obtain ⟨r, hr, hor⟩ := refFit_loop n hn (by omega) (cov n l) (cov_mod n l) t ht.1 hC sz (by omega) n.toNat k 0 (by omega) (by omega) (by omega)
      rw [show ((0 : Nat) : Int) = 0 from rfl] at hr
      rw [hr]
      have hsp := fit_spec (cov n l) n.toNat (cov_per n l hn) (gapsOf n l) (gapsOf_GapsOk n hn l hl0) sz (by omega)
      rw [show ((n.toNat : Nat) : Int) = n by omega, show List.foldl (fitStep sz n) (-1) (gapsOf n l) = best sz n l from rfl] at hsp
      have hge := best_ge sz n hn l
      congr 1
      rcases hor with ⟨e, ha⟩ | ⟨q, e, _, hq, hrun, ha⟩
      · by_cases hb : best sz n l < 0
        · omega
        · obtain ⟨b1, b2, _⟩ := hsp.2 (by omega)
          have := ha (best sz n l).toNat (by omega) (by omega)
          rw [show (((best sz n l).toNat : Nat) : Int) = best sz n l by omega] at this
          omega
      · by_cases hb : best sz n l < 0
        · have := hsp.1 hb q hq; omega
        · obtain ⟨b1, b2, b3⟩ := hsp.2 (by omega)
          rcases Int.lt_trichotomy (best sz n l) q with hlt | heq | hgt
          · have := ha (best sz n l).toNat (by omega) (by omega)
            rw [show (((best sz n l).toNat : Nat) : Int) = best sz n l by omega] at this
            omega
          · omega
          · have := b3 q (by omega); omega
end Go.Proofs.Ythnpacnmghlkmaa.Arcs
