/- What arcs cover and leave, where something fits, who meets whom: the law's answer is 'yes', in plain Lean. -/
import Derived.Test.YthnpacnmghlkmaaRefGaps
import Derived.Test.YthnpacnmghlkmaaQa
namespace Go.Proofs.Ythnpacnmghlkmaa.Arcs
open Go.RowKit Go.Proofs.Ythnpacnmghlkmaa Go.Proofs.Ythnpacnmghlkmaa.Room Go.Proofs.Ythnpacnmghlkmaa.Px Go.Proofs.Ythnpacnmghlkmaa.Qa Go.Proofs.YthnpacnmghlkmaaW.PrintWords Go.Proofs.YthnpacnmghlkmaaW.PrintMore

/-- Two arcs meet just where some place is in both. -/
theorem meet_two (n : Int) (hn : 1 ≤ n) (a b : S52) (ha : ArcOk n a) (hb : ArcOk n b) : meetB n a b = true ↔ ∃ p : Nat, p < n.toNat ∧ cnt n [a, b] p > 1 := by
  have two : ∀ p : Int, cnt n [a, b] p > 1 ↔ inArc n a p = true ∧ inArc n b p = true := fun p => by
    rw [cnt_cons, cnt_cons]
    have : cnt n [] p = 0 := rfl
    rw [this]
    cases inArc n a p <;> cases inArc n b p <;> simp
  obtain ⟨a0, a1, a2, a3⟩ := ha
  constructor
  · intro hm
    have hz : 1 ≤ a.f1.toNat := by
      unfold meetB at hm
      simp at hm; omega
    have hf := free_iff n hn [b] (fun x hx => by rw [List.mem_singleton.1 hx]; exact hb) a.f0 a.f1.toNat hz (by omega)
    have hno : ¬ a.f1.toNat ≤ run (cov n [b]) a.f0 n.toNat := fun hle => by
      have := hf.2 hle b (by simp)
      rw [show (⟨a.f0, (a.f1.toNat : Nat)⟩ : S52) = a by cases a; simp at *; omega] at this
      rw [this] at hm; cases hm
    have he := run_end (cov n [b]) n.toNat a.f0 (by omega)
    obtain ⟨d, hd⟩ : ∃ d, run (cov n [b]) a.f0 n.toNat = d := ⟨_, rfl⟩
    rw [hd] at he hno
    have hq0 := Int.emod_nonneg (a.f0 + d) (b := n) (by omega)
    have hq1 := Int.emod_lt_of_pos (a.f0 + d) (b := n) (by omega)
    refine ⟨((a.f0 + d) % n).toNat, by omega, ?_⟩
    rw [show ((((a.f0 + d) % n).toNat : Nat) : Int) = (a.f0 + d) % n by omega, two]
    refine ⟨?_, ?_⟩
    · rw [inArc_mod]
      unfold inArc
      rw [show a.f0 + (d : Int) - a.f0 = d by omega, Int.emod_eq_of_lt (by omega) (by omega)]
      simp; omega
    · rw [inArc_mod]
      simpa [cov] using he
  · rintro ⟨p, hp, hc⟩
    rw [two] at hc
    obtain ⟨h1, h2⟩ := hc
    have h1' := h1
    unfold inArc at h1'
    rw [decide_eq_true_iff] at h1'
    have hp0 := Int.emod_nonneg ((p : Int) - a.f0) (b := n) (by omega)
    by_cases hm : meetB n a b = true
    · exact hm
    · exfalso
      have hf := (free_iff n hn [b] (fun x hx => by rw [List.mem_singleton.1 hx]; exact hb) a.f0 a.f1.toNat (by omega) (by omega)).1 (fun x hx => by
        rw [List.mem_singleton.1 hx, show (⟨a.f0, (a.f1.toNat : Nat)⟩ : S52) = a by cases a; simp at *; omega]
        simpa using hm)
      have := run_free (cov n [b]) n.toNat a.f0 (((p : Int) - a.f0) % n).toNat (by omega)
      rw [show ((((p : Int) - a.f0) % n).toNat : Int) = ((p : Int) - a.f0) % n by omega, ← cov_mod, Int.add_emod_emod, show a.f0 + ((p : Int) - a.f0) = p by omega, cov_mod] at this
      simp [cov, h2] at this
theorem refMay_l0 (n : Int) (l : List S52) (hl : l.length ≤ 35184372088832) : ∀ (d k x : Nat), l.length - x = d → x ≤ l.length → d < k → rotaref13_May.l0 k l n x = some ((l.drop x).all (arcB n)) := by
  intro d
  induction d with
  | zero =>
    intro k x h hx hk
    obtain ⟨k, rfl⟩ : ∃ j, k = j + 1 := ⟨k - 1, by omega⟩
    simp only [rotaref13_May.l0]
    rw [if_neg (by omega), List.drop_of_length_le (by omega)]
    rfl
  | succ d ih =>
    intro k x h hx hk
    obtain ⟨k, rfl⟩ : ∃ j, k = j + 1 := ⟨k - 1, by omega⟩
    have := ih k (x + 1) (by omega) (by omega) (by omega)
    simp only [rotaref13_May.l0]
    rw [if_pos (by omega), if_pos (by omega), wrap_in _ (by omega) (by omega), show (x : Int) + 1 = ((x + 1 : Nat) : Int) by omega, this, drop_rd (x := x) (l := l) (by omega), List.all_cons]
    generalize rd_T52 l x = a
    generalize (l.drop (x + 1)).all (arcB n) = b
    unfold arcB
    by_cases h1 : a.f0 < 0
    · rw [if_pos h1]; simp [show ¬ 0 ≤ a.f0 by omega]
    rw [if_neg h1]
    by_cases h2 : a.f0 ≥ n
    · rw [if_pos h2]; simp [show ¬ a.f0 < n by omega]
    rw [if_neg h2]
    by_cases h3 : a.f1 < 0
    · rw [if_pos h3]; simp [show ¬ 0 ≤ a.f1 by omega]
    rw [if_neg h3]
    by_cases h4 : a.f1 > n
    · rw [if_pos h4]; simp [show ¬ a.f1 ≤ n by omega]
    rw [if_neg h4]
    simp [show 0 ≤ a.f0 by omega, show a.f0 < n by omega, show 0 ≤ a.f1 by omega, show a.f1 ≤ n by omega]
theorem refMay_eq (k : Nat) (n : Int) (l : List S52) (hl : l.length ≤ 35184372088832) (hk : l.length + 2 ≤ k) : rotaref13_May.f k l n = some (mayB n l) := by
  obtain ⟨k, rfl⟩ : ∃ j, k = j + 1 := ⟨k - 1, by omega⟩
  have h := refMay_l0 n l hl l.length k 0 (by omega) (by omega) (by omega)
  rw [List.drop_zero, show ((0 : Nat) : Int) = 0 from rfl] at h
  unfold rotaref13_May.f mayB
  by_cases h1 : n < 1
  · rw [if_pos h1]; simp [rotaref13_May.j0, show ¬ 1 ≤ n by omega]
  · rw [if_neg h1]
    simp only [rotaref13_May.j0]
    by_cases h2 : n > 1048576
    · rw [if_pos (by simpa using h2)]; simp [show ¬ n ≤ 1048576 by omega]
    · rw [if_neg (by simpa using h2), h]
      simp [show 1 ≤ n by omega, show n ≤ 1048576 by omega]
theorem twin_eq (l : List S52) (hl : l.length ≤ 20) : rotalaw13_twin.f l = some (l ++ [⟨77, 0⟩]) := by
  unfold rotalaw13_twin.f
  rw [if_pos (by simp; omega), Option.bind_some, if_pos (by simp; omega)]
  simp
theorem rd_app (l m : List S52) (x : Nat) (hx : x < l.length) : rd_T52 (l ++ m) x = rd_T52 l x := by
  simp [rd_T52, List.getD, List.getElem?_append_left hx]
theorem rd_last (l : List S52) (a : S52) : rd_T52 (l ++ [a]) (l.length : Int) = a := by
  simp [rd_T52, List.getD]
/-- The arcs stay. -/
theorem stay_loop (l : List S52) (hl : l.length ≤ 20) (s n : Int) (b : Bool) (c e1 : Int) (gs : List S52) (e2 r e3 : Int) : ∀ (d k x : Nat), l.length - x = d → x ≤ l.length → d < k →
    rotalaw13_RingArcs.l0 k l s n (l ++ [⟨77, 0⟩]) b c e1 gs e2 r e3 (l.length : Int) x = rotalaw13_RingArcs.l0 (k - d) l s n (l ++ [⟨77, 0⟩]) b c e1 gs e2 r e3 (l.length : Int) (l.length : Int) := by
  intro d
  induction d with
  | zero => intro k x hd hx hk; rw [show x = l.length by omega]; rfl
  | succ d ih =>
    intro k x hd hx hk
    obtain ⟨k, rfl⟩ : ∃ j, k = j + 1 := ⟨k - 1, by omega⟩
    have := ih k (x + 1) (by omega) (by omega) (by omega)
    rw [show k + 1 - (d + 1) = k - d by omega, ← this]
    have hap : (x : Int) < (l ++ [(⟨77, 0⟩ : S52)]).length := by simp; omega
    conv => lhs; unfold rotalaw13_RingArcs.l0
    rw [if_pos (by omega), if_pos (by omega), if_pos hap, if_pos (by omega), rd_app l _ x (by omega), if_neg (by simp), wrap_in _ (by omega) (by omega), show (x : Int) + 1 = ((x + 1 : Nat) : Int) by omega]
/-- Is some place counted twice? -/
theorem twice_loop (l : List S52) (n : Int) (own : List S52) (c e1 : Int) (gs : List S52) (e2 m i : Int) (is_ : Bool) (h : Int) (t : List Int) (ht : t.length ≤ 1000000) (met : Bool) : ∀ (d k x : Nat) (b : Bool), t.length - x = d → x ≤ t.length → d < k → ((b = true ∨ ∃ p : Nat, x ≤ p ∧ p < t.length ∧ rd t p > 1) ↔ met = true) →
    rotalaw13_RingArcs.l3 k l n own c e1 gs e2 m i is_ h t b (t.length : Int) x = rotalaw13_RingArcs.l3 (k - d) l n own c e1 gs e2 m i is_ h t met (t.length : Int) (t.length : Int) := by
  intro d
  induction d with
  | zero =>
    intro k x b hd hx hk hm
    have : b = met := by
      have hno : ¬ ∃ p : Nat, x ≤ p ∧ p < t.length ∧ rd t p > 1 := by rintro ⟨p, h1, h2, _⟩; omega
      cases b <;> cases met <;> simp [hno] at hm ⊢
    rw [this, show x = t.length by omega]; rfl
  | succ d ih =>
    intro k x b hd hx hk hm
    obtain ⟨k, rfl⟩ : ∃ j, k = j + 1 := ⟨k - 1, by omega⟩
    rw [show k + 1 - (d + 1) = k - d by omega]
    conv => lhs; unfold rotalaw13_RingArcs.l3
    rw [if_pos (by omega), wrap_in _ (by omega) (by omega), show (x : Int) + 1 = ((x + 1 : Nat) : Int) by omega]
    cases b
    · rw [if_neg (by simp), if_pos (by omega), if_pos (by omega)]
      refine ih k (x + 1) _ (by omega) (by omega) (by omega) (Iff.trans ?_ hm)
      rw [decide_eq_true_iff]
      constructor
      · rintro (h1 | ⟨p, h1, h2, h3⟩)
        · exact .inr ⟨x, Nat.le_refl _, by omega, h1⟩
        · exact .inr ⟨p, by omega, h2, h3⟩
      · rintro (h1 | ⟨p, h1, h2, h3⟩)
        · cases h1
        · by_cases hpx : p = x
          · subst hpx; exact .inl h3
          · exact .inr ⟨p, by omega, h2, h3⟩
    · rw [if_pos rfl]
      exact ih k (x + 1) true (by omega) (by omega) (by omega) (Iff.trans (by simp) hm)
def posTo (t : List Int) (x : Nat) : Int := sumTo (fun i => if rd t i > 0 then 1 else 0) x
theorem posTo_bound (t : List Int) (x : Nat) : 0 ≤ posTo t x ∧ posTo t x ≤ x := by
  unfold posTo
  induction x with
  | zero => simp [sumTo]
  | succ x ih => rw [sumTo]; split <;> omega
/-- How many places are taken. -/
theorem many_loop (l : List S52) (s n : Int) (own : List S52) (c e1 : Int) (gs : List S52) (e2 r e3 : Int) (t : List Int) (ht : t.length ≤ 1000000) : ∀ (d k x : Nat), t.length - x = d → x ≤ t.length → d < k →
    rotalaw13_RingArcs.l1 k l s n own c e1 gs e2 r e3 (posTo t x) t (t.length : Int) x = rotalaw13_RingArcs.l1 (k - d) l s n own c e1 gs e2 r e3 (posTo t t.length) t (t.length : Int) (t.length : Int) := by
  intro d
  induction d with
  | zero => intro k x hd hx hk; rw [show x = t.length by omega]; rfl
  | succ d ih =>
    intro k x hd hx hk
    obtain ⟨k, rfl⟩ : ∃ j, k = j + 1 := ⟨k - 1, by omega⟩
    have := ih k (x + 1) (by omega) (by omega) (by omega)
    have hb := posTo_bound t x
    have hsx : posTo t (x + 1) = posTo t x + (if rd t x > 0 then 1 else 0) := rfl
    rw [show k + 1 - (d + 1) = k - d by omega, ← this]
    conv => lhs; unfold rotalaw13_RingArcs.l1
    rw [if_pos (by omega), if_pos (by omega), if_pos (by omega), wrap_in (x + 1) (by omega) (by omega), wrap_in (posTo t x + 1) (by omega) (by omega), show (x : Int) + 1 = ((x + 1 : Nat) : Int) by omega]
    by_cases h : rd t x > 0
    · rw [if_pos h] at hsx ⊢; rw [hsx]
    · rw [if_neg h] at hsx ⊢; rw [hsx, Int.add_zero]
theorem posTo_covered (n : Int) (hn : 1 ≤ n) (l : List S52) (hl : ∀ a ∈ l, 0 ≤ a.f1) (t : List Int) (ht : Cnt n t (cnt n l)) : posTo t t.length = coveredOf n l := by
  rw [coveredOf_sum n hn l hl, ht.1]
  refine sumTo_congr _ _ _ (fun i hi => ?_)
  rw [ht.2 i (by omega) (by omega)]
  have := cnt_pos n l i
  by_cases h : cnt n l i > 0
  · rw [if_pos h, if_pos (this.1 h)]
  · rw [if_neg h, if_neg (fun hc => h (this.2 hc))]
set_option maxRecDepth 100000 in
/-- The first arc and each other one; then the end. -/
theorem pairs_loop (n : Int) (hn : 1 ≤ n) (hn2 : n ≤ 1000) (l : List S52) (hl : l.length ≤ 20) (h : ∀ a ∈ l, ArcOk n a) : ∀ (d k i : Nat), l.length - i = d → 1 ≤ i → d * 1100 + 1200000 < k →
    rotalaw13_RingArcs.l2 k l n (l ++ [⟨77, 0⟩]) (coveredOf n l) 0 (gapsOf n l) 0 (coveredOf n l) i = some true := by
  intro d
  induction d with
  | zero =>
    intro k i hd hi hk
    obtain ⟨k, rfl⟩ : ∃ j, k = j + 1 := ⟨k - 1, by omega⟩
    have hlen : (gapsOf n l).length ≤ 1000000 := by
      unfold gapsOf; rw [dif_pos hn]; split
      · simp
      · have := gapsTo_len (n := n) (hn := hn) (has := takenOf n hn (List.replicate n.toNat false) l) n.toNat; omega
    simp only [rotalaw13_RingArcs.l2]
    rw [if_neg (by omega)]
    simp only [if_pos]
    have hsame : rotaref13_Same.f k (gapsOf n l) (gapsOf n l) = some true := by
      unfold rotaref13_Same.f
      rw [if_pos rfl]
      have := same_eq (gapsOf n l) hlen (gapsOf n l).length k 0 (by omega) (by omega) (by
        have : (gapsOf n l).length ≤ 1000 := by
          unfold gapsOf; rw [dif_pos hn]; split
          · simp
          · have := gapsTo_len (n := n) (hn := hn) (has := takenOf n hn (List.replicate n.toNat false) l) n.toNat; omega
        omega)
      exact this
    rw [refGaps_eq k n l hn hn2 hl h (by omega), Option.bind_some, hsame, Option.bind_some]
    simp only [if_pos]
    rw [if_pos (by omega), if_pos (by simp; omega), rd_last]
    simp
  | succ d ih =>
    intro k i hd hi hk
    rw [Nat.succ_mul] at hk
    obtain ⟨k, rfl⟩ : ∃ j, k = j + 1 := ⟨k - 1, by omega⟩
    have h0 := h _ (rd_mem (l := l) (x := 0) (by omega) (by omega))
    have h1 := h _ (rd_mem (l := l) (x := (i : Int)) (by omega) (by omega))
    simp only [rotalaw13_RingArcs.l2]
    rw [if_pos (by omega), if_pos (by omega), if_pos (by omega), meet_eq k n _ _ hn (by omega) h0 h1 (by omega), Option.bind_some]
    obtain ⟨t, ht, he⟩ := taken_spec n hn (by omega) [rd_T52 l 0, rd_T52 l i] (by simp) (fun a ha => by simp at ha; rcases ha with rfl | rfl <;> assumption) k (by
      have : 2 * (n.toNat + 2) ≤ 2 * 1002 := Nat.mul_le_mul (Nat.le_refl _) (by omega)
      simp; omega)
    rw [he, Option.bind_some]
    have htl := ht.1
    have tw := twice_loop l n (l ++ [⟨77, 0⟩]) (coveredOf n l) 0 (gapsOf n l) 0 (coveredOf n l) i (meetB n (rd_T52 l 0) (rd_T52 l i)) 0 t (by omega) (meetB n (rd_T52 l 0) (rd_T52 l i)) t.length k 0 false (by omega) (by omega) (by omega) (by
      rw [meet_two n hn _ _ h0 h1]
      constructor
      · rintro (hc | ⟨p, _, hp, hc⟩)
        · cases hc
        · exact ⟨p, by omega, by rw [← ht.2 p (by omega) (by omega)]; exact hc⟩
      · rintro ⟨p, hp, hc⟩
        exact .inr ⟨p, by omega, by omega, by rw [ht.2 p (by omega) (by omega)]; exact hc⟩)
    rw [show ((0 : Nat) : Int) = 0 from rfl] at tw
    dsimp only
    rw [tw]
    obtain ⟨k', hk'⟩ : ∃ k', k - t.length = k' + 1 := ⟨k - t.length - 1, by omega⟩
    rw [hk']
    simp only [rotalaw13_RingArcs.l3]
    rw [if_neg (by omega)]
    simp only [if_pos]
    rw [if_neg (by simp), wrap_in _ (by omega) (by omega), show (i : Int) + 1 = ((i + 1 : Nat) : Int) by omega]
    exact ih k' (i + 1) (by omega) (by omega) (by omega)
set_option maxRecDepth 100000 in
theorem arcs_go (l : List S52) (hl : l.length ≤ 20) (size n : Int) (hn : n ≤ 1000 ∨ n > 1048576) (k : Nat) (hk : 2000000 ≤ k) : rotalaw13_RingArcs.j0 k l size n false = some true := by
  obtain ⟨k, rfl⟩ : ∃ j, k = j + 1 := ⟨k - 1, by omega⟩
  have htk : (l ++ [(⟨77, 0⟩ : S52)]).take ((l.length : Int)).toNat = l := by simp
  simp only [rotalaw13_RingArcs.j0]
  rw [if_neg (by simp), twin_eq l hl, Option.bind_some, refMay_eq k n l (by omega) (by omega), Option.bind_some, if_pos (by omega), if_pos (by simp; omega), htk, covered_eq k n l (by omega) (by omega), Option.bind_some, gaps_eq k n l (by omega) (by omega), Option.bind_some, fit_eq k size n l (by omega) (by omega), Option.bind_some]
  have st := fun b c e1 gs e2 r e3 => stay_loop l hl size n b c e1 gs e2 r e3 l.length k 0 (by omega) (by omega) (by omega)
  rw [show ((0 : Nat) : Int) = 0 from rfl] at st
  rw [st]
  obtain ⟨k1, hk1⟩ : ∃ j, k - l.length = j + 1 := ⟨k - l.length - 1, by omega⟩
  rw [hk1]
  simp only [rotalaw13_RingArcs.l0]
  rw [if_neg (by omega)]
  by_cases hb : mayB n l = true
  · obtain ⟨h1, h2, hok⟩ := mayB_ok hb
    have hn3 : n ≤ 1000 := by omega
    have hm1 : l.length * (n.toNat + 2) ≤ 20 * 1002 := Nat.mul_le_mul hl (by omega)
    obtain ⟨t, ht, he⟩ := taken_spec n h1 h2 l (by omega) hok k1 (by omega)
    have htl := ht.1
    have hpc := posTo_covered n h1 l (fun a ha => (hok a ha).2.2.1) t ht
    rw [if_pos hb, if_pos hb, if_pos hb, if_pos hb, he, Option.bind_some]
    obtain ⟨r, e, hre⟩ : ∃ r e : Int, (if best size n l < 0 then ((0 : Int), (2 : Int)) else (best size n l, 0)) = (r, e) := ⟨_, _, rfl⟩
    rw [hre]
    dsimp only
    have mt := many_loop l size n (l ++ [⟨77, 0⟩]) (coveredOf n l) 0 (gapsOf n l) 0 r e t (by omega) t.length k1 0 (by omega) (by omega) (by omega)
    rw [show ((0 : Nat) : Int) = 0 from rfl, show posTo t 0 = 0 from rfl] at mt
    rw [mt, hpc]
    obtain ⟨k2, hk2⟩ : ∃ j, k1 - t.length = j + 2 := ⟨k1 - t.length - 2, by omega⟩
    rw [hk2]
    have hp := pairs_loop n h1 hn3 l hl hok (l.length - 1) k2 1 (by omega) (by omega) (by omega)
    rw [show ((1 : Nat) : Int) = 1 from rfl] at hp
    simp only [rotalaw13_RingArcs.l1]
    rw [if_neg (by omega), refFit_eq (k2 + 1) size n l h1 hn3 hl hok (by omega), Option.bind_some]
    by_cases hbest : best size n l < 0
    · rw [if_pos hbest] at hre
      cases hre
      rw [if_pos hbest]
      simp only [if_pos]
      rw [if_neg (by omega)]
      simp only [rotalaw13_RingArcs.j3]
      rw [if_neg (by simp)]
      exact hp
    · rw [if_neg hbest] at hre
      cases hre
      rw [if_neg hbest, if_pos (by omega)]
      simp only [if_pos]
      simp only [rotalaw13_RingArcs.j3]
      rw [if_neg (by simp)]
      exact hp
  · rw [if_neg hb, if_neg hb, if_neg hb, if_neg hb]
    simp only [if_pos]
    rw [if_pos (by omega), if_pos (by simp; omega), rd_last]
    simp
/-- THE LAW. -/
theorem ringArcs_plain (l : List S52) (size n : Int) : rotalaw13_RingArcs.f 3000000 l size n = some true := by
  have yes : ∀ k, rotalaw13_RingArcs.j0 (k + 1) l size n true = some true := fun k => by simp [rotalaw13_RingArcs.j0]
  unfold rotalaw13_RingArcs.f
  have go : ∀ b : Bool, (n ≤ 1000 ∨ n > 1048576) → b = decide ((l.length : Int) > 20) → rotalaw13_RingArcs.j0 3000000 l size n b = some true := fun b hn hb => by
    cases b
    · have : ¬ (l.length : Int) > 20 := of_decide_eq_false hb.symm
      exact arcs_go l (by omega) size n hn 3000000 (by omega)
    · exact yes 2999999
  by_cases h1 : n > 1000
  · rw [if_pos h1]
    by_cases h2 : n ≤ 1048576
    · rw [if_pos h2]; exact yes 2999999
    · rw [if_neg h2]; exact go _ (by omega) rfl
  · rw [if_neg h1]; exact go _ (by omega) rfl
end Go.Proofs.Ythnpacnmghlkmaa.Arcs
