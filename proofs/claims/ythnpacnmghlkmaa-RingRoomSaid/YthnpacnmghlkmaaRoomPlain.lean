/- What is covered and the gaps; what fits: the law's answer is 'yes', in plain Lean. -/
import Derived.Test.YthnpacnmghlkmaaRoomFacts
import Derived.Test.YthnpacnmghlkmaaQr
namespace Go.Proofs.Ythnpacnmghlkmaa.Room
open Go.RowKit Go.Proofs.Ythnpacnmghlkmaa Go.Proofs.Ythnpacnmghlkmaa.Px Go.Proofs.Ythnpacnmghlkmaa.Qr Go.Proofs.YthnpacnmghlkmaaW.PrintWords Go.Proofs.YthnpacnmghlkmaaW.PrintMore

theorem gapsOf_ok {n : Int} {l : List S52} (hn : 1 ≤ n) : ∀ a ∈ gapsOf n l, ArcOk n a := by
  unfold gapsOf
  rw [dif_pos hn]
  split
  · intro a ha
    rw [List.mem_singleton] at ha
    subst ha
    exact ⟨by simp, by simp; omega, by simp; omega, by simp⟩
  · exact gapsTo_ok _ (by omega)
theorem gapsOf_len {n : Int} {l : List S52} (hn : 1 ≤ n) : (gapsOf n l).length ≤ n.toNat := by
  unfold gapsOf
  rw [dif_pos hn]
  split
  · simp; omega
  · exact gapsTo_len _
/-- A gap meets no arc. -/
theorem gap_meets (n : Int) (hn : 1 ≤ n) (l : List S52) (hl : ∀ a ∈ l, ArcOk n a) : ∀ g ∈ gapsOf n l, ∀ a ∈ l, meetB n g a = false := by
  intro g hg a ha
  obtain ⟨g0, g1, g2⟩ := (gapsOf_GapsOk n hn l (fun a ha => (hl a ha).2.2.1)).1 g hg
  have hle := run_le (cov n l) n.toNat g.f0
  by_cases hz : run (cov n l) g.f0 n.toNat = 0
  · unfold meetB
    simp [show ¬ (0 : Int) < g.f1 by omega]
  · have := (free_iff n hn l hl g.f0 (run (cov n l) g.f0 n.toNat) (by omega) (by omega)).2 (Nat.le_refl _) a ha
    rw [← g2] at this
    exact this
def wid (gs : List S52) : Int := gs.foldl (fun b g => mx b g.f1) 0
theorem wid_fold (gs : List S52) : ∀ b : Int, b ≤ gs.foldl (fun b g => mx b g.f1) b ∧ (∀ g ∈ gs, g.f1 ≤ gs.foldl (fun b g => mx b g.f1) b) ∧ (gs.foldl (fun b g => mx b g.f1) b = b ∨ ∃ g ∈ gs, gs.foldl (fun b g => mx b g.f1) b = g.f1) := by
  induction gs with
  | nil => intro b; exact ⟨Int.le_refl _, fun g hg => by simp at hg, .inl rfl⟩
  | cons g gs ih =>
    intro b
    rw [List.foldl_cons]
    obtain ⟨h1, h2, h3⟩ := ih (mx b g.f1)
    have hm : b ≤ mx b g.f1 ∧ g.f1 ≤ mx b g.f1 ∧ (mx b g.f1 = b ∨ mx b g.f1 = g.f1) := by unfold mx; split <;> omega
    refine ⟨by omega, fun x hx => ?_, ?_⟩
    · rcases List.mem_cons.1 hx with rfl | hx
      · omega
      · exact h2 x hx
    · rcases h3 with h3 | ⟨x, hx, h3⟩
      · rcases hm.2.2 with e | e
        · exact .inl (h3.trans e)
        · exact .inr ⟨g, by simp, h3.trans e⟩
      · exact .inr ⟨x, List.mem_cons_of_mem _ hx, h3⟩
def best (size n : Int) (l : List S52) : Int := (gapsOf n l).foldl (fitStep size n) (-1)
theorem fit_eq (k : Nat) (size n : Int) (l : List S52) (hl : l.length ≤ 35184372088832) (hk : l.length + 2 ≤ k) : ring_Fit.f k l size n = some (if mayB n l = true then (if best size n l < 0 then (0, 2) else (best size n l, 0)) else (0, 130)) := by
  unfold ring_Fit.f
  rw [gaps_eq k n l hl hk, Option.bind_some]
  by_cases h : mayB n l = true
  · rw [if_pos h, if_pos h]
    simp only [if_pos]
    unfold best
    split <;> rfl
  · rw [if_neg h, if_neg h]; rfl
theorem best_iff (size n : Int) (hn : 1 ≤ n) (l : List S52) : 0 ≤ best size n l ↔ (1 ≤ size ∧ size ≤ wid (gapsOf n l)) := by
  obtain ⟨_, a2, a3, a4⟩ := fit_fold size n (gapsOf n l) (fun g hg => (gapsOf_ok hn g hg).1) (-1) (by omega)
  obtain ⟨b1, b2, b3⟩ := wid_fold (gapsOf n l) 0
  constructor
  · intro h
    rcases a4 with e | ⟨g, hg, c1, c2, _⟩
    · unfold best at h; omega
    · have := b2 g hg
      unfold wid
      exact ⟨c1, by omega⟩
  · rintro ⟨h1, h2⟩
    rcases b3 with e | ⟨g, hg, e⟩
    · unfold wid at h2; omega
    · exact (a3 g hg h1 (by unfold wid at h2; omega)).1
/-- The places are tried one by one. -/
theorem place_loop (n : Int) (hn : 1 ≤ n) (hn2 : n ≤ 1000) (l : List S52) (h : ∀ a ∈ l, ArcOk n a) (hl : l.length ≤ 20) (size : Nat) (hs : 1 ≤ size) (hsn : (size : Int) ≤ n) (r : Nat) (hr : (r : Int) < n) (hW : size ≤ run (cov n l) r n.toNat) (hM : ∀ p : Nat, p < r → run (cov n l) p n.toNat < size) :
    ∀ (E k p : Nat), r + 1 - p = E → p ≤ r + 1 → E * 30 + 4 < k → rotalaw13_RingRoom.l2 k l size true n r 0 p = some true := by
  intro E
  induction E with
  | zero =>
    intro k p hE hp hk
    obtain ⟨k, rfl⟩ : ∃ j, k = j + 2 := ⟨k - 2, by omega⟩
    simp only [rotalaw13_RingRoom.l2]
    rw [if_neg (by omega)]
    simp [rotalaw13_RingRoom.j7]
  | succ E ih =>
    intro k p hE hp hk
    obtain ⟨k, rfl⟩ : ∃ j, k = j + 2 := ⟨k - 2, by omega⟩
    simp only [rotalaw13_RingRoom.l2]
    rw [if_pos (by omega)]
    simp only [rotalaw13_RingRoom.j7]
    rw [if_pos (by rfl)]
    have hap : ArcOk n (⟨p, size⟩ : S52) := ⟨by simp, by simp; omega, by simp, by simpa using hsn⟩
    have inner : ∀ (d j x : Nat), l.length - x = d → x ≤ l.length → d + E * 30 + 6 < j → rotalaw13_RingRoom.l3 j l size true n r 0 p ((l.take x).all (fun a => !meetB n ⟨p, size⟩ a)) (l.length : Int) x = some true := by
      intro d
      induction d with
      | zero =>
        intro j x hd hx hj
        obtain ⟨j, rfl⟩ : ∃ i, j = i + 1 := ⟨j - 1, by omega⟩
        simp only [rotalaw13_RingRoom.l3]
        rw [if_neg (by omega), List.take_of_length_le (by omega)]
        have hfree : (l.all (fun a => !meetB n ⟨p, size⟩ a)) = ((p : Int) == (r : Int)) := by
          rw [Bool.eq_iff_iff, List.all_eq_true, beq_iff_eq]
          have hf := free_iff n hn l h p size hs hsn
          constructor
          · intro hall
            have := hf.1 (fun a ha => by simpa using hall a ha)
            by_cases hpr : p < r
            · have := hM p hpr; omega
            · omega
          · intro hpr a ha
            have : p = r := by omega
            subst this
            simpa using hf.2 hW a ha
        rw [hfree, if_neg (by simp), wrap_in _ (by omega) (by omega), show (p : Int) + 1 = ((p + 1 : Nat) : Int) by omega]
        exact ih j (p + 1) (by omega) (by omega) (by omega)
      | succ d ihd =>
        intro j x hd hx hj
        obtain ⟨j, rfl⟩ : ∃ i, j = i + 1 := ⟨j - 1, by omega⟩
        have hix : (x : Int) < l.length := by omega
        have tx := take_rd (l := l) (x := (x : Int)) (by omega) hix
        rw [show ((x : Int) + 1).toNat = x + 1 by omega, show (x : Int).toNat = x by omega] at tx
        have := ihd j (x + 1) (by omega) (by omega) (by omega)
        have hok := h _ (rd_mem (l := l) (x := (x : Int)) (by omega) hix)
        have hme := meet_eq j n ⟨p, size⟩ (rd_T52 l x) hn (by omega) hap hok (by omega)
        simp only at hme
        simp only [rotalaw13_RingRoom.l3]
        rw [if_pos hix, if_pos (by omega), if_pos hix, hme, Option.bind_some, if_pos rfl, wrap_in _ (by omega) (by omega), show (x : Int) + 1 = ((x + 1 : Nat) : Int) by omega]
        rw [tx, List.all_append] at this
        simp only [List.all_cons, List.all_nil, Bool.and_true] at this
        by_cases hb : (l.take x).all (fun a => !meetB n ⟨p, size⟩ a) = true
        · rw [hb, Bool.true_and] at this
          rw [hb, if_pos rfl]; exact this
        · rw [Bool.not_eq_true] at hb
          rw [hb, Bool.false_and] at this
          rw [hb, if_neg (by simp)]; exact this
    have := inner l.length k 0 (by omega) (by omega) (by omega)
    simpa using this
/-- The gaps, one by one: each meets no arc; their lengths are added up. -/
theorem gap_loop (n : Int) (hn : 1 ≤ n) (hn2 : n ≤ 1000) (l : List S52) (h : ∀ a ∈ l, ArcOk n a) (hl : l.length ≤ 20) (size c r e : Int) (gs : List S52) (hgs : ∀ g ∈ gs, ArcOk n g) (hno : ∀ g ∈ gs, ∀ a ∈ l, meetB n g a = false) (hgl : gs.length ≤ 1000) (hc0 : 0 ≤ c) (hc1 : c ≤ 1000) (K : Nat) (hK : 4 ≤ K)
    (hfin : ∀ k, K ≤ k → rotalaw13_RingRoom.l0 k l size true n (c + sumOf (fun a => a.f1) gs) r e (wid gs) gs (gs.length : Int) (gs.length : Int) = some true) :
    ∀ (D k i : Nat), gs.length - i = D → i ≤ gs.length → D * 30 + K < k → 0 ≤ sumOf (fun a => a.f1) (gs.take i) → sumOf (fun a => a.f1) (gs.take i) ≤ i * 1000 → rotalaw13_RingRoom.l0 k l size true n (c + sumOf (fun a => a.f1) (gs.take i)) r e (wid (gs.take i)) gs (gs.length : Int) i = some true := by
  intro D
  induction D with
  | zero =>
    intro k i hD hi hk _ _
    have hie : i = gs.length := by omega
    subst hie
    rw [List.take_length]
    exact hfin k (by omega)
  | succ D ih =>
    intro k i hD hi hk a1 a2
    obtain ⟨k, rfl⟩ : ∃ j, k = j + 1 := ⟨k - 1, by omega⟩
    have hix : (i : Int) < gs.length := by omega
    have tx := take_rd (l := gs) (x := (i : Int)) (by omega) hix
    rw [show ((i : Int) + 1).toNat = i + 1 by omega, show (i : Int).toNat = i by omega] at tx
    have hmem := rd_mem (l := gs) (x := (i : Int)) (by omega) hix
    obtain ⟨p0, p1, p2, p3⟩ := hgs _ hmem
    have sx : sumOf (fun a => a.f1) (gs.take (i + 1)) = sumOf (fun a => a.f1) (gs.take i) + (rd_T52 gs i).f1 := by rw [tx, sumOf_append]; simp [sumOf]
    have wx : wid (gs.take (i + 1)) = mx (wid (gs.take i)) (rd_T52 gs i).f1 := by unfold wid; rw [tx, List.foldl_append]; rfl
    have inner : ∀ (d j x : Nat), l.length - x = d → x ≤ l.length → d + D * 30 + K + 1 < j → rotalaw13_RingRoom.l1 j l size true n (c + sumOf (fun a => a.f1) (gs.take (i + 1))) r e (wid (gs.take (i + 1))) gs (gs.length : Int) i (l.length : Int) x (rd_T52 gs i).f0 (rd_T52 gs i).f1 = some true := by
      intro d
      induction d with
      | zero =>
        intro j x hd hx hj
        obtain ⟨j, rfl⟩ : ∃ m, j = m + 1 := ⟨j - 1, by omega⟩
        simp only [rotalaw13_RingRoom.l1]
        rw [if_neg (by omega), wrap_in _ (by omega) (by omega), show (i : Int) + 1 = ((i + 1 : Nat) : Int) by omega]
        exact ih j (i + 1) (by omega) (by omega) (by omega) (by omega) (by omega)
      | succ d ihd =>
        intro j x hd hx hj
        obtain ⟨j, rfl⟩ : ∃ m, j = m + 1 := ⟨j - 1, by omega⟩
        have hxl : (x : Int) < l.length := by omega
        have hmx := rd_mem (l := l) (x := (x : Int)) (by omega) hxl
        have := ihd j (x + 1) (by omega) (by omega) (by omega)
        simp only [rotalaw13_RingRoom.l1]
        rw [if_pos hxl, if_pos (by omega), if_pos hxl, meet_eq j n _ _ hn (by omega) ⟨p0, p1, p2, p3⟩ (h _ hmx) (by omega), Option.bind_some, hno _ hmem _ hmx, if_neg (by simp), if_pos rfl, wrap_in _ (by omega) (by omega), show (x : Int) + 1 = ((x + 1 : Nat) : Int) by omega]
        exact this
    have := inner l.length k 0 (by omega) (by omega) (by omega)
    simp only [rotalaw13_RingRoom.l0]
    rw [if_pos hix, if_pos (by omega), if_pos hix, wrap_in _ (by omega) (by omega), show c + sumOf (fun a => a.f1) (gs.take i) + (rd_T52 gs i).f1 = c + sumOf (fun a => a.f1) (gs.take (i + 1)) by omega, ← wx]
    exact this
/-- THE LAW. -/
theorem ringRoom_plain (l : List S52) (size a2 : Int) (h0 : 0 ≤ a2) (h1 : a2 ≤ 65535) : rotalaw13_RingRoom.f 70000 l size a2 = some true := by
  have hm : Int.tmod a2 1000 = a2 % 1000 := Int.tmod_eq_emod_of_nonneg h0
  have hmr : 0 ≤ a2 % 1000 ∧ a2 % 1000 < 1000 := ⟨by omega, by omega⟩
  unfold rotalaw13_RingRoom.f
  rw [alive_true (by omega), Option.bind_some, wrap_in a2 (by omega) (by omega), hm, wrap_in _ (by omega) (by omega)]
  generalize hn : 1 + a2 % 1000 = n
  obtain ⟨k, hk⟩ : ∃ k, 70000 = k + 2 := ⟨69998, rfl⟩
  rw [hk]
  simp only [rotalaw13_RingRoom.j0]
  by_cases hl : (l.length : Int) > 20
  · rw [if_pos hl]; rfl
  · rw [if_neg hl]
    simp only [Bool.not_true, Bool.false_eq_true, if_false]
    rw [covered_eq _ n l (by omega) (by omega), gaps_eq _ n l (by omega) (by omega), fit_eq _ size n l (by omega) (by omega)]
    by_cases hb : mayB n l = true
    · obtain ⟨_, _, hok⟩ := mayB_ok hb
      rw [if_pos hb, if_pos hb, if_pos hb, Option.bind_some, Option.bind_some, Option.bind_some, if_pos rfl]
      have hcov := coveredOf_sum n (by omega) l (fun a ha => (hok a ha).2.2.1)
      have hcn := ind_nonneg (cov n l) n.toNat
      have hall := all_places n (by omega) l (fun a ha => (hok a ha).2.2.1)
      have hle := gapsOf_len (l := l) (n := n) (by omega)
      have hsn : 0 ≤ sumOf (fun a => a.f1) (gapsOf n l) := by
        have : ∀ gs : List S52, (∀ g ∈ gs, ArcOk n g) → 0 ≤ sumOf (fun a => a.f1) gs := by
          intro gs
          induction gs with
          | nil => intro _; simp [sumOf]
          | cons g gs ih =>
            intro h
            have := ih (fun x hx => h x (List.mem_cons_of_mem _ hx))
            have := (h g (by simp)).2.2.1
            simp only [sumOf]; omega
        exact this _ (gapsOf_ok (by omega))
      obtain ⟨r, e, hre⟩ : ∃ r e : Int, (if best size n l < 0 then ((0 : Int), (2 : Int)) else (best size n l, 0)) = (r, e) := ⟨_, _, rfl⟩
      rw [hre]
      simp only [rotalaw13_RingRoom.j1]
      rw [if_neg (by simp)]
      have hg := gap_loop n (by omega) (by omega) l hok (by omega) size (coveredOf n l) r e (gapsOf n l) (gapsOf_ok (by omega)) (gap_meets n (by omega) l hok) (by omega) (by omega) (by omega) 31000 (by omega) (fun k hk => ?_) (gapsOf n l).length k 0 (by omega) (by omega) (by omega) (by simp [sumOf]) (by simp [sumOf])
      · simpa [sumOf, wid] using hg
      · obtain ⟨k, rfl⟩ : ∃ j, k = j + 3 := ⟨k - 3, by omega⟩
        simp only [rotalaw13_RingRoom.l0]
        rw [if_neg (by omega), if_pos hall]
        have hbi := best_iff size n (by omega) l
        by_cases hbest : best size n l < 0
        · rw [if_pos hbest] at hre
          cases hre
          have hw : (if size ≥ 1 then rotalaw13_RingRoom.j4 (k + 2) l size true n 0 2 (((2 : Int) == 0) != decide (size ≤ wid (gapsOf n l))) else rotalaw13_RingRoom.j4 (k + 2) l size true n 0 2 (((2 : Int) == 0) != false)) = rotalaw13_RingRoom.j4 (k + 2) l size true n 0 2 false := by
            split
            · rw [show decide (size ≤ wid (gapsOf n l)) = false from decide_eq_false (fun hc => by have := hbi.2 ⟨by omega, hc⟩; omega)]; rfl
            · rfl
          rw [hw]
          obtain ⟨k, rfl⟩ : ∃ j, k = j + 2 := ⟨k - 2, by omega⟩
          simp [rotalaw13_RingRoom.j4, rotalaw13_RingRoom.j5, rotalaw13_RingRoom.l2, rotalaw13_RingRoom.j7]
        · rw [if_neg hbest] at hre
          cases hre
          obtain ⟨hs1, hs2⟩ := hbi.1 (by omega)
          rw [if_pos (by omega), show decide (size ≤ wid (gapsOf n l)) = true from decide_eq_true hs2]
          obtain ⟨sz, rfl⟩ : ∃ sz : Nat, size = sz := ⟨size.toNat, by omega⟩
          have hspec := (fit_spec (cov n l) n.toNat (cov_per n l (by omega)) (gapsOf n l) (gapsOf_GapsOk n (by omega) l (fun a ha => (hok a ha).2.2.1)) sz (by omega)).2
          rw [show ((n.toNat : Nat) : Int) = n by omega] at hspec
          obtain ⟨q1, q2, q3⟩ := hspec (by unfold best at hbest; omega)
          rw [show List.foldl (fitStep sz n) (-1) (gapsOf n l) = best sz n l from rfl] at q1 q2 q3
          obtain ⟨r, hr⟩ : ∃ r : Nat, best sz n l = r := ⟨(best sz n l).toNat, by omega⟩
          rw [hr] at q1 q2 q3 ⊢
          have hrl := run_le (cov n l) n.toNat (r : Int)
          have hp := place_loop n (by omega) (by omega) l hok (by omega) sz (by omega) (by omega) r q1 q2 (fun p hp => q3 p (by omega)) (r + 1) k 0 (by omega) (by omega) (by omega)
          simp only [rotalaw13_RingRoom.j4]
          rw [if_neg (by simp), if_pos trivial, if_neg (by omega)]
          simp only [rotalaw13_RingRoom.j5]
          rw [if_neg (by simp; omega)]
          exact hp
    · rw [if_neg hb, if_neg hb, if_neg hb, Option.bind_some, Option.bind_some, Option.bind_some, if_neg (by simp)]
      simp [rotalaw13_RingRoom.j1]
end Go.Proofs.Ythnpacnmghlkmaa.Room
