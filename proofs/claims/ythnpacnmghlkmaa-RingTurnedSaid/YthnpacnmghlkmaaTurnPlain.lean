/- Arcs that are all turned: the law's answer is 'yes', in plain Lean. -/
import Derived.Test.YthnpacnmghlkmaaMayPlain
import Derived.Test.YthnpacnmghlkmaaQt
namespace Go.Proofs.Ythnpacnmghlkmaa
open Go.RowKit Go.Proofs.Ythnpacnmghlkmaa.Px Go.Proofs.Ythnpacnmghlkmaa.Qt Go.Proofs.YthnpacnmghlkmaaW.PrintWords

def turned (n s : Int) (l : List S52) : List S52 := l.map fun a => ⟨(a.f0 + s) % n, a.f1⟩
theorem turned_ok {n s : Int} {l : List S52} (hn : 1 ≤ n) (h : ∀ a ∈ l, ArcOk n a) : ∀ a ∈ turned n s l, ArcOk n a := by
  intro a ha
  simp only [turned, List.mem_map] at ha
  obtain ⟨b, hb, rfl⟩ := ha
  obtain ⟨_, _, h2, h3⟩ := h b hb
  exact ⟨Int.emod_nonneg _ (by omega), Int.emod_lt_of_pos _ (by omega), h2, h3⟩
theorem cov_turned (n s : Int) (l : List S52) (p : Int) : cov n (turned n s l) p = cov n l (p - s) := by
  unfold cov turned
  rw [List.any_map]
  congr 1
  funext a
  show inArc n _ p = inArc n a (p - s)
  unfold inArc
  rw [Int.sub_emod, Int.emod_emod, ← Int.sub_emod, show p - (a.f0 + s) = p - s - a.f0 by omega]
theorem covered_turned (n s : Int) (hn : 1 ≤ n) (hs : 0 ≤ s) (l : List S52) (h : ∀ a ∈ l, ArcOk n a) : coveredOf n (turned n s l) = coveredOf n l := by
  rw [coveredOf_sum n hn l (fun a ha => (h a ha).2.2.1), coveredOf_sum n hn _ (fun a ha => (turned_ok hn h a ha).2.2.1), ← sumTo_turned n hn (fun p => if cov n l p = true then 1 else 0) (fun x => by rw [cov_mod]) s hs]
  exact sumTo_congr _ _ _ (fun i _ => by rw [cov_turned])
theorem gapAt_shift (C : Int → Bool) (s i : Int) : gapAt (fun p => C (p - s)) i = gapAt C (i - s) := by
  show (!C (i - s) && C (i - 1 - s)) = (!C (i - s) && C (i - s - 1))
  rw [show i - 1 - s = i - s - 1 by omega]
theorem gapAt_mod (n : Int) (l : List S52) (x : Int) : gapAt (cov n l) (x % n) = gapAt (cov n l) x := by
  unfold gapAt
  rw [cov_mod, ← cov_mod n l (x % n - 1), Int.emod_sub_emod, cov_mod]
/-- What gaps' lengths come to. -/
theorem gaps_sum (n : Int) (hn : 1 ≤ n) (l : List S52) (h : ∀ a ∈ l, ArcOk n a) (f : Int → Int) : sumOf (fun a => f a.f1) (gapsOf n l) = if coveredOf n l = 0 then f n else sumTo (fun i => if gapAt (cov n l) i = true then f (run (cov n l) i n.toNat) else 0) n.toNat := by
  have hc : coveredOf n l = countOf (takenOf n hn (List.replicate n.toNat false) l) := by unfold coveredOf; rw [dif_pos hn]
  unfold gapsOf
  rw [dif_pos hn, ← hc]
  split
  · simp [sumOf]
  · exact gapsTo_sum n hn _ (cov n l) (fun p h0 h1 => has_cov n hn l (fun a ha => (h a ha).2.2.1) p h0 h1) (cov_mod n l) f n.toNat (by omega)
theorem gaps_turned (n s : Int) (hn : 1 ≤ n) (hs : 0 ≤ s) (l : List S52) (h : ∀ a ∈ l, ArcOk n a) (f : Int → Int) : sumOf (fun a => f a.f1) (gapsOf n (turned n s l)) = sumOf (fun a => f a.f1) (gapsOf n l) := by
  rw [gaps_sum n hn l h f, gaps_sum n hn _ (turned_ok hn h) f, covered_turned n s hn hs l h]
  have hcf : cov n (turned n s l) = fun p => cov n l (p - s) := funext (cov_turned n s l)
  split
  · rfl
  · rw [hcf, ← sumTo_turned n hn (fun i => if gapAt (cov n l) i = true then f (run (cov n l) i n.toNat) else 0) ?_ s hs]
    · refine sumTo_congr _ _ _ (fun i _ => ?_)
      rw [run_shift, gapAt_shift]
    · intro x
      have hr : ∀ k y, run (cov n l) (y % n) k = run (cov n l) y k := by
        intro k
        induction k with
        | zero => intro y; rfl
        | succ k ih =>
          intro y
          simp only [run]
          rw [cov_mod, ← ih (y % n + 1), ← ih (y + 1), Int.emod_add_emod]
      rw [hr, gapAt_mod]
theorem length_turned (n s : Int) (hn : 1 ≤ n) (hs : 0 ≤ s) (l : List S52) (h : ∀ a ∈ l, ArcOk n a) : (gapsOf n (turned n s l)).length = (gapsOf n l).length := by
  have := gaps_turned n s hn hs l h (fun _ => 1)
  rw [← length_sumOf, ← length_sumOf] at this
  omega
theorem meet_turned (n s : Int) (a b : S52) : meetB n ⟨(a.f0 + s) % n, a.f1⟩ ⟨(b.f0 + s) % n, b.f1⟩ = meetB n a b := by
  unfold meetB
  have e : ∀ x y : Int, ((x + s) % n - (y + s) % n) % n = (x - y) % n := fun x y => by
    rw [← Int.sub_emod, show x + s - (y + s) = x - y by omega]
  simp only [e]
theorem rd_turned (n s : Int) (l : List S52) (i : Int) (h0 : 0 ≤ i) (h1 : i < l.length) : rd_T52 (turned n s l) i = ⟨((rd_T52 l i).f0 + s) % n, (rd_T52 l i).f1⟩ := by
  have : i.toNat < l.length := by omega
  simp [rd_T52, turned, List.getD, this]

theorem gapsOf_ok {n : Int} {l : List S52} (hn : 1 ≤ n) : ∀ a ∈ gapsOf n l, ArcOk n a := by
  unfold gapsOf
  rw [dif_pos hn]
  split
  · intro a ha
    rw [List.mem_singleton] at ha
    subst ha
    exact ⟨by simp, by simp; omega, by simp; omega, by simp⟩
  · exact gapsTo_ok _ (by omega)
theorem gapsOf_len {n : Int} {l : List S52} (hn : 1 ≤ n) : (gapsOf n l).length ≤ n.toNat := by
  unfold gapsOf
  rw [dif_pos hn]
  split
  · simp; omega
  · exact gapsTo_len _
def sq (x : Int) : Int := x * x
/-- The squares' loop. -/
theorem sq_loop (n : Int) (hn2 : n ≤ 1000) (xs ys : List S52) (hx : ∀ a ∈ xs, ArcOk n a) (hy : ∀ a ∈ ys, ArcOk n a) (hl : xs.length = ys.length) (hx2 : xs.length ≤ 1000) (x0 m : List S52) (K : Nat) (hfin : ∀ k, K ≤ k → rotalaw13_RingTurned.l2 k x0 true n m (sumOf (fun a => sq a.f1) xs) (sumOf (fun a => sq a.f1) ys) 1 = some true) :
    ∀ (d k i : Nat), xs.length - i = d → i ≤ xs.length → d + K < k → 0 ≤ sumOf (fun a => sq a.f1) (xs.take i) → sumOf (fun a => sq a.f1) (xs.take i) ≤ i * 1000000 → 0 ≤ sumOf (fun a => sq a.f1) (ys.take i) → sumOf (fun a => sq a.f1) (ys.take i) ≤ i * 1000000 →
      rotalaw13_RingTurned.l1 k x0 true n m xs ys (sumOf (fun a => sq a.f1) (xs.take i)) (sumOf (fun a => sq a.f1) (ys.take i)) (xs.length : Int) i = some true := by
  intro d
  induction d with
  | zero =>
    intro k i h hi hk _ _ _ _
    obtain ⟨k, rfl⟩ : ∃ j, k = j + 1 := ⟨k - 1, by omega⟩
    simp only [rotalaw13_RingTurned.l1]
    rw [if_neg (by omega), List.take_of_length_le (by omega), List.take_of_length_le (by omega)]
    exact hfin k (by omega)
  | succ d ih =>
    intro k i h hi hk a1 a2 a3 a4
    obtain ⟨k, rfl⟩ : ∃ j, k = j + 1 := ⟨k - 1, by omega⟩
    have hix : (i : Int) < xs.length := by omega
    have hiy : (i : Int) < ys.length := by omega
    have tx := take_rd (l := xs) (x := (i : Int)) (by omega) hix
    have ty := take_rd (l := ys) (x := (i : Int)) (by omega) hiy
    rw [show ((i : Int) + 1).toNat = i + 1 by omega, show (i : Int).toNat = i by omega] at tx ty
    obtain ⟨_, _, p2, p3⟩ := hx _ (rd_mem (by omega) hix)
    obtain ⟨_, _, q2, q3⟩ := hy _ (rd_mem (by omega) hiy)
    have bound : ∀ z : Int, 0 ≤ z → z ≤ 1000 → 0 ≤ sq z ∧ sq z ≤ 1000000 := fun z h0 h1 => ⟨Int.mul_nonneg h0 h0, by
      have := Int.mul_le_mul h1 h1 h0 (by omega)
      simpa [sq] using this⟩
    obtain ⟨b1, b2⟩ := bound _ p2 (by omega)
    obtain ⟨b3, b4⟩ := bound _ q2 (by omega)
    have sx : sumOf (fun a => sq a.f1) (xs.take (i + 1)) = sumOf (fun a => sq a.f1) (xs.take i) + sq (rd_T52 xs i).f1 := by rw [tx, sumOf_append]; simp [sumOf]
    have sy : sumOf (fun a => sq a.f1) (ys.take (i + 1)) = sumOf (fun a => sq a.f1) (ys.take i) + sq (rd_T52 ys i).f1 := by rw [ty, sumOf_append]; simp [sumOf]
    have := ih k (i + 1) (by omega) (by omega) (by omega) (by omega) (by omega) (by omega) (by omega)
    simp only [rotalaw13_RingTurned.l1]
    rw [if_pos hix, if_pos (by omega), if_pos hix, if_pos hiy]
    rw [show (rd_T52 xs i).f1 * (rd_T52 xs i).f1 = sq (rd_T52 xs i).f1 from rfl, show (rd_T52 ys i).f1 * (rd_T52 ys i).f1 = sq (rd_T52 ys i).f1 from rfl]
    rw [wrap_in (sq (rd_T52 xs i).f1) (by omega) (by omega), wrap_in (sq (rd_T52 ys i).f1) (by omega) (by omega), wrap_in (_ + _) (by omega) (by omega), wrap_in (_ + _) (by omega) (by omega), ← sx, ← sy, wrap_in _ (by omega) (by omega), show (i : Int) + 1 = ((i + 1 : Nat) : Int) by omega]
    exact this
/-- Who meets whom. -/
theorem meet_loop (n s : Int) (hn : 1 ≤ n) (hn2 : n ≤ 1000) (l : List S52) (h : ∀ a ∈ l, ArcOk n a) (hl : l.length ≤ 20) (c : Int) : ∀ (d k i : Nat), l.length - i = d → 1 ≤ i → d + 4 < k → rotalaw13_RingTurned.l2 k l true n (turned n s l) c c i = some true := by
  have hml : (turned n s l).length = l.length := by simp [turned]
  intro d
  induction d with
  | zero =>
    intro k i hd hi hk
    obtain ⟨k, rfl⟩ : ∃ j, k = j + 1 := ⟨k - 1, by omega⟩
    simp only [rotalaw13_RingTurned.l2]
    rw [if_neg (by omega)]
    simp
  | succ d ih =>
    intro k i hd hi hk
    obtain ⟨k, rfl⟩ : ∃ j, k = j + 1 := ⟨k - 1, by omega⟩
    have := ih k (i + 1) (by omega) (by omega) (by omega)
    have h0 := rd_mem (l := l) (x := 0) (by omega) (by omega)
    have h1 := rd_mem (l := l) (x := (i : Int)) (by omega) (by omega)
    have m0 := h _ h0
    have m1 := h _ h1
    have t0 := rd_mem (l := turned n s l) (x := 0) (by omega) (by omega)
    have t1 := rd_mem (l := turned n s l) (x := (i : Int)) (by omega) (by omega)
    have n0 := turned_ok hn h _ t0
    have n1 := turned_ok hn h _ t1
    simp only [rotalaw13_RingTurned.l2]
    rw [if_pos (by omega), if_pos (by omega), if_pos (by omega), meet_eq k n _ _ hn (by omega) m0 m1 (by omega), Option.bind_some, if_pos (by omega), if_pos (by omega), meet_eq k n _ _ hn (by omega) n0 n1 (by omega), Option.bind_some, if_pos rfl, if_pos rfl, rd_turned n s l 0 (by omega) (by omega), rd_turned n s l i (by omega) (by omega), meet_turned, if_neg (by simp), wrap_in _ (by omega) (by omega), show (i : Int) + 1 = ((i + 1 : Nat) : Int) by omega]
    exact this
theorem turned_snoc (n s : Int) (l : List S52) (a : S52) : turned n s (l ++ [a]) = turned n s l ++ [⟨(a.f0 + s) % n, a.f1⟩] := by simp [turned]
/-- The turned arcs are made, one behind the other; then all is compared. -/
theorem turn_loop (n by_ : Int) (hn : 1 ≤ n) (hn2 : n ≤ 1000) (l : List S52) (h : ∀ a ∈ l, ArcOk n a) (hl : l.length ≤ 20) : ∀ (d k i : Nat), l.length - i = d → i ≤ l.length → d + 2000 < k →
    rotalaw13_RingTurned.l0 k l by_ true n (coveredOf n l) (turned n (by_ % n) (l.take i)) (l.length : Int) i = some true := by
  have hs0 := Int.emod_nonneg by_ (b := n) (by omega)
  have hs1 := Int.emod_lt_of_pos by_ (b := n) (by omega)
  have hmay := mayB_of hn (by omega) h
  have hmay2 := mayB_of hn (by omega) (turned_ok (s := by_ % n) hn h)
  have hml : (turned n (by_ % n) l).length = l.length := by simp [turned]
  intro d
  induction d with
  | zero =>
    intro k i hd hi hk
    obtain ⟨k, rfl⟩ : ∃ j, k = j + 1 := ⟨k - 1, by omega⟩
    simp only [rotalaw13_RingTurned.l0]
    have hlen := length_turned n (by_ % n) hn hs0 l h
    have hle := gapsOf_len (l := l) hn
    rw [if_neg (by omega), List.take_of_length_le (by omega), covered_eq k n _ (by omega) (by omega), if_pos hmay2, Option.bind_some, gaps_eq k n _ (by omega) (by omega), if_pos hmay, Option.bind_some, gaps_eq k n _ (by omega) (by omega), if_pos hmay2, Option.bind_some, if_pos rfl, if_pos rfl, if_pos rfl, if_pos (covered_turned n _ hn hs0 l h).symm]
    obtain ⟨k, rfl⟩ : ∃ j, k = j + 1 := ⟨k - 1, by omega⟩
    simp only [rotalaw13_RingTurned.j2]
    rw [if_neg (by simp [hlen])]
    refine sq_loop n hn2 _ _ (gapsOf_ok hn) (gapsOf_ok hn) hlen.symm (by omega) l _ 30 (fun k hk => ?_) (gapsOf n l).length k 0 (by omega) (by omega) (by omega) (by simp [sumOf]) (by simp [sumOf]) (by simp [sumOf]) (by simp [sumOf])
    rw [gaps_turned n _ hn hs0 l h sq]
    exact meet_loop n _ hn hn2 l h hl _ (l.length - 1) k 1 rfl (by omega) (by omega)
  | succ d ih =>
    intro k i hd hi hk
    obtain ⟨k, rfl⟩ : ∃ j, k = j + 1 := ⟨k - 1, by omega⟩
    have hix : (i : Int) < l.length := by omega
    have tx := take_rd (l := l) (x := (i : Int)) (by omega) hix
    rw [show ((i : Int) + 1).toNat = i + 1 by omega, show (i : Int).toNat = i by omega] at tx
    obtain ⟨p0, p1, _, _⟩ := h _ (rd_mem (by omega) hix)
    have hlt : (turned n (by_ % n) (l.take i)).length < 8796093022208 := by simp [turned]; omega
    have := ih k (i + 1) (by omega) (by omega) (by omega)
    simp only [rotalaw13_RingTurned.l0]
    rw [if_pos hix, place_eq k by_ n (by omega), if_pos ⟨hn, by omega⟩, Option.bind_some, if_pos (by omega), if_pos hix, wrap_in ((rd_T52 l i).f0 + _) (by simp only; omega) (by simp only; omega), place_eq k _ n (by omega), if_pos ⟨hn, by omega⟩, Option.bind_some, if_pos rfl, if_pos rfl, if_pos hlt, wrap_in _ (by omega) (by omega), show (i : Int) + 1 = ((i + 1 : Nat) : Int) by omega]
    rw [tx, turned_snoc] at this
    exact this
/-- THE LAW. -/
theorem ringTurned_plain (l : List S52) (by_ a2 : Int) (h0 : 0 ≤ a2) (h1 : a2 ≤ 65535) : rotalaw13_RingTurned.f 3000 l by_ a2 = some true := by
  have ht := tmod_emod a2 1000 (by omega)
  have hm : Int.tmod a2 1000 = a2 % 1000 := Int.tmod_eq_emod_of_nonneg h0
  have hmr : 0 ≤ a2 % 1000 ∧ a2 % 1000 < 1000 := ⟨by omega, by omega⟩
  unfold rotalaw13_RingTurned.f
  rw [alive_true (by omega), Option.bind_some, wrap_in a2 (by omega) (by omega), hm, wrap_in _ (by omega) (by omega)]
  generalize hn : 1 + a2 % 1000 = n
  simp only [rotalaw13_RingTurned.j0]
  by_cases hl : (l.length : Int) > 20
  · rw [if_pos hl]; rfl
  · rw [if_neg hl]
    simp only [Bool.not_true, Bool.false_eq_true, if_false]
    rw [covered_eq _ n l (by omega) (by omega)]
    by_cases hb : mayB n l = true
    · rw [if_pos hb, Option.bind_some, if_pos rfl]
      exact turn_loop n by_ (by omega) (by omega) l (mayB_ok hb).2.2 (by omega) l.length _ 0 (by omega) (by omega) (by omega)
    · rw [if_neg hb, Option.bind_some, if_neg (by simp)]
      simp
end Go.Proofs.Ythnpacnmghlkmaa
