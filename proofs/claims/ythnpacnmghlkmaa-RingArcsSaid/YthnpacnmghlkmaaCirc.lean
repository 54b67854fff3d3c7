/- Round the ring: what is free lies in gaps; the first place with room. -/
import Derived.Test.YthnpacnmghlkmaaArcsPlain
namespace Go.Proofs.Ythnpacnmghlkmaa
open Go.RowKit Go.Proofs.Ythnpacnmghlkmaa.Px

theorem gapAt_move (C : Int → Bool) (s i : Int) : gapAt (fun p => C (p - s)) i = gapAt C (i - s) := by
  show (!C (i - s) && C (i - 1 - s)) = (!C (i - s) && C (i - s - 1))
  rw [show i - 1 - s = i - s - 1 by omega]
/-! Runs of places that are not covered -/
theorem run_true (C : Int → Bool) (i : Int) (k : Nat) (h : C i = true) : run C i k = 0 := by
  cases k with
  | zero => rfl
  | succ k => simp [run, h]
theorem run_false (C : Int → Bool) (i : Int) (k : Nat) (h : C i = false) : run C i (k + 1) = 1 + run C (i + 1) k := by simp [run, h]
/-- Where something covered is at most d on, more fuel than d changes nothing. -/
theorem run_fuel (C : Int → Bool) : ∀ (d : Nat) (i : Int) (k k' : Nat), C (i + d) = true → d ≤ k → d ≤ k' → run C i k = run C i k' := by
  intro d
  induction d with
  | zero =>
    intro i k k' h _ _
    rw [show i + ((0 : Nat) : Int) = i by omega] at h
    rw [run_true C i k h, run_true C i k' h]
  | succ d ih =>
    intro i k k' h hk hk'
    obtain ⟨k, rfl⟩ : ∃ j, k = j + 1 := ⟨k - 1, by omega⟩
    obtain ⟨k', rfl⟩ : ∃ j, k' = j + 1 := ⟨k' - 1, by omega⟩
    simp only [run]
    rw [ih (i + 1) k k' (by rw [show i + 1 + (d : Int) = i + ((d + 1 : Nat) : Int) by omega]; exact h) (by omega) (by omega)]
/-- A run's places are not covered. -/
theorem run_free (C : Int → Bool) : ∀ (k : Nat) (i : Int) (d : Nat), d < run C i k → C (i + d) = false := by
  intro k
  induction k with
  | zero => intro i d h; simp [run] at h
  | succ k ih =>
    intro i d h
    by_cases hc : C i = true
    · rw [run_true C i _ hc] at h; omega
    · rw [Bool.not_eq_true] at hc
      rw [run_false C i k hc] at h
      cases d with
      | zero => rw [show i + ((0 : Nat) : Int) = i by omega]; exact hc
      | succ d =>
        have := ih (i + 1) d (by omega)
        rw [show i + 1 + (d : Int) = i + ((d + 1 : Nat) : Int) by omega] at this
        exact this
/-- Where m places are free a run is as long. -/
theorem run_ge (C : Int → Bool) : ∀ (m k : Nat) (i : Int), m ≤ k → (∀ d : Nat, d < m → C (i + d) = false) → m ≤ run C i k := by
  intro m
  induction m with
  | zero => intro k i _ _; omega
  | succ m ih =>
    intro k i hk h
    obtain ⟨k, rfl⟩ : ∃ j, k = j + 1 := ⟨k - 1, by omega⟩
    have h0 := h 0 (by omega)
    rw [show i + ((0 : Nat) : Int) = i by omega] at h0
    rw [run_false C i k h0]
    have := ih k (i + 1) (by omega) (fun d hd => by
      rw [show i + 1 + (d : Int) = i + ((d + 1 : Nat) : Int) by omega]
      exact h (d + 1) (by omega))
    omega
/-- The place behind a run that ended is covered. -/
theorem run_end (C : Int → Bool) : ∀ (k : Nat) (i : Int), run C i k < k → C (i + run C i k) = true := by
  intro k
  induction k with
  | zero => intro i h; simp [run] at h
  | succ k ih =>
    intro i h
    by_cases hc : C i = true
    · rw [run_true C i _ hc, show i + ((0 : Nat) : Int) = i by omega]; exact hc
    · rw [Bool.not_eq_true] at hc
      rw [run_false C i k hc] at h ⊢
      have := ih (i + 1) (by omega)
      rw [show i + 1 + ((run C (i + 1) k : Nat) : Int) = i + ((1 + run C (i + 1) k : Nat) : Int) by omega] at this
      exact this

/-- From a covered place on to a covered place: the gaps' lengths are what is free. -/
theorem gaps_line (D : Int → Bool) (N : Nat) (hN : D N = true) : ∀ k : Nat, k ≤ N →
    sumTo (fun i => if D ((N - k : Nat) + i) = true then 0 else 1) k =
      sumTo (fun i => if gapAt D ((N - k : Nat) + i) = true then (run D ((N - k : Nat) + i) N : Nat) else 0) k + (if gapAt D (N - k : Nat) = true then 0 else (run D (N - k : Nat) N : Nat)) := by
  intro k
  induction k with
  | zero =>
    intro _
    have : D ((N - 0 : Nat) : Int) = true := hN
    simp only [sumTo]
    rw [run_true D _ N this]
    simp
  | succ k ih =>
    intro hk
    have h := ih (by omega)
    rw [sumTo_shift, sumTo_shift]
    obtain ⟨j, hj⟩ : ∃ j, N - (k + 1) = j := ⟨_, rfl⟩
    have hj1 : N - k = j + 1 := by omega
    rw [hj1] at h
    rw [hj]
    have e : ∀ i : Nat, ((j : Int) + ((i + 1 : Nat) : Int)) = ((j + 1 : Nat) : Int) + i := fun i => by omega
    simp only [e]
    have e0 : (j : Int) + ((0 : Nat) : Int) = j := by omega
    rw [e0]
    generalize sumTo (fun i => if D (((j + 1 : Nat) : Int) + i) = true then 0 else 1) k = U at *
    generalize sumTo (fun i => if gapAt D (((j + 1 : Nat) : Int) + i) = true then ((run D (((j + 1 : Nat) : Int) + i) N : Nat) : Int) else 0) k = R at *
    have g1 : gapAt D ((j + 1 : Nat) : Int) = (!D ((j + 1 : Nat) : Int) && D j) := by
      unfold gapAt
      rw [show ((j + 1 : Nat) : Int) - 1 = j by omega]
    by_cases hd : D j = true
    · have r0 := run_true D j N hd
      have gj : gapAt D j = false := by unfold gapAt; rw [hd]; rfl
      rw [if_pos hd, gj, r0]
      rw [g1, hd, Bool.and_true] at h
      cases hd1 : D ((j + 1 : Nat) : Int)
      · rw [hd1] at h; simp at h ⊢; omega
      · rw [hd1, run_true D _ N hd1] at h; simp at h ⊢; omega
    · rw [Bool.not_eq_true] at hd
      rw [g1, hd, Bool.and_false] at h
      have hr : run D j N = 1 + run D ((j + 1 : Nat) : Int) N := by
        have hw : D (((j + 1 : Nat) : Int) + ((N - (j + 1) : Nat) : Int)) = true := by
          rw [show ((j + 1 : Nat) : Int) + ((N - (j + 1) : Nat) : Int) = N by omega]; exact hN
        obtain ⟨M, hM⟩ : ∃ M, N = M + 1 := ⟨N - 1, by omega⟩
        have h2 := run_fuel D (N - (j + 1)) ((j + 1 : Nat) : Int) N M hw (by omega) (by omega)
        rw [h2]
        have h3 := run_false D j M hd
        rw [← hM] at h3
        rw [h3, show (j : Int) + 1 = ((j + 1 : Nat) : Int) by omega]
      simp only [Bool.false_eq_true, if_false] at h
      rw [hd, if_neg (by simp), hr]
      clear ih hr
      generalize run D ((j + 1 : Nat) : Int) N = q at *
      cases gapAt D j
      · simp; omega
      · simp; omega
/-- Round the ring: the gaps' lengths are what is free. -/
theorem gaps_circ (C : Int → Bool) (N : Nat) (hN : 1 ≤ N) (hp : ∀ x, C (x + N) = C x) (s : Nat) (hs : C s = true) :
    sumTo (fun i => if C i = true then 0 else 1) N = sumTo (fun i => if gapAt C i = true then (run C i N : Nat) else 0) N := by
  have hD : (fun x : Int => C (x + s)) (N : Int) = true := by
    show C ((N : Int) + s) = true
    rw [show (N : Int) + s = s + N by omega, hp]; exact hs
  have h := gaps_line (fun x => C (x + s)) N hD N (Nat.le_refl _)
  have e0 : ((N - N : Nat) : Int) = 0 := by omega
  have r0 : run (fun x : Int => C (x + s)) 0 N = 0 := run_true _ _ _ (by show C (0 + (s : Int)) = true; rw [Int.zero_add]; exact hs)
  simp only [e0, r0] at h
  have t1 := sumTo_turn (fun x => if C (x + s) = true then 0 else 1) N hN (fun x => by rw [show x + (N : Int) + s = x + s + N by omega, hp]) s
  have t2 := sumTo_turn (fun x => if gapAt C (x + s) = true then ((run C (x + s) N : Nat) : Int) else 0) N hN (fun x => by
    have e : x + (N : Int) + s = (x + s) + N := by omega
    have hr : run C (x + s + N) N = run C (x + s) N := by
      have := run_shift C (-(N : Int)) N (x + s)
      rw [show (fun y : Int => C (y - -(N : Int))) = C from funext (fun y => by rw [show y - -(N : Int) = y + N by omega, hp])] at this
      rw [this, show x + (s : Int) - -(N : Int) = x + s + N by omega]
    have hg : gapAt C (x + s + N) = gapAt C (x + s) := by
      unfold gapAt
      rw [hp, show x + (s : Int) + N - 1 = x + s - 1 + N by omega, hp]
    rw [e, hr, hg]) s
  have c1 : sumTo (fun i => (fun x : Int => if C (x + s) = true then (0 : Int) else 1) ((i : Int) - s)) N = sumTo (fun i => if C i = true then 0 else 1) N := sumTo_congr _ _ _ (fun i _ => by
    show (if C ((i : Int) - s + s) = true then (0 : Int) else 1) = _
    rw [show (i : Int) - s + s = i by omega])
  have c2 : sumTo (fun i => (fun x : Int => if gapAt C (x + s) = true then ((run C (x + s) N : Nat) : Int) else 0) ((i : Int) - s)) N = sumTo (fun i => if gapAt C i = true then (run C i N : Nat) else 0) N := sumTo_congr _ _ _ (fun i _ => by
    show (if gapAt C ((i : Int) - s + s) = true then ((run C ((i : Int) - s + s) N : Nat) : Int) else 0) = _
    rw [show (i : Int) - s + s = i by omega])
  rw [c1] at t1
  rw [c2] at t2
  rw [t1, t2]
  have d1 : sumTo (fun i => if C ((i : Int) + s) = true then 0 else 1) N = sumTo (fun i => if C (0 + (i : Int) + s) = true then 0 else 1) N := sumTo_congr _ _ _ (fun i _ => by rw [Int.zero_add])
  have d2 : sumTo (fun i => if gapAt C ((i : Int) + s) = true then ((run C ((i : Int) + s) N : Nat) : Int) else 0) N = sumTo (fun i => if gapAt (fun x => C (x + s)) (0 + (i : Int)) = true then ((run (fun x => C (x + s)) (0 + (i : Int)) N : Nat) : Int) else 0) N := sumTo_congr _ _ _ (fun i _ => by
    have a := run_shift C (-(s : Int)) N (0 + i)
    have b := gapAt_move C (-(s : Int)) (0 + i)
    rw [show (fun x : Int => C (x - -(s : Int))) = (fun x => C (x + s)) from funext (fun x => by rw [show x - -(s : Int) = x + s by omega])] at a b
    rw [a, b, show 0 + (i : Int) - -(s : Int) = i + s by omega])
  rw [d1, d2, h]
  simp
/-- Some way back from a free place a gap begins. -/
theorem gap_back (C : Int → Bool) (p : Int) : ∀ (m : Nat), C p = false → C (p - m) = true → ∃ t : Nat, t < m ∧ C (p - t - 1) = true ∧ ∀ d : Nat, d ≤ t → C (p - d) = false := by
  intro m
  induction m with
  | zero => intro h0 h1; rw [show p - ((0 : Nat) : Int) = p by omega, h0] at h1; cases h1
  | succ m ih =>
    intro h0 h1
    by_cases hc : C (p - m) = true
    · obtain ⟨t, h2, h3, h4⟩ := ih h0 hc
      exact ⟨t, by omega, h3, h4⟩
    · by_cases hall : ∃ d : Nat, d ≤ m ∧ C (p - d) = true
      · obtain ⟨d, hd, hd2⟩ := hall
        by_cases hdm : d = m
        · subst hdm; exact absurd hd2 hc
        · -- nearer: by the least such d
          have : ∀ (e : Nat), e ≤ m → C (p - e) = true → ∃ t : Nat, t < e ∧ C (p - t - 1) = true ∧ ∀ d : Nat, d ≤ t → C (p - d) = false := by
            intro e
            induction e using Nat.strongRecOn with
            | ind e ihe =>
              intro he hce
              by_cases hex : ∃ f : Nat, f < e ∧ C (p - f) = true
              · obtain ⟨f, hf, hcf⟩ := hex
                obtain ⟨t, h2, h3, h4⟩ := ihe f hf (by omega) hcf
                exact ⟨t, by omega, h3, h4⟩
              · have he0 : e ≠ 0 := by rintro rfl; rw [show p - ((0 : Nat) : Int) = p by omega, h0] at hce; cases hce
                refine ⟨e - 1, by omega, by rw [show p - ((e - 1 : Nat) : Int) - 1 = p - e by omega]; exact hce, fun d hd => ?_⟩
                by_cases hcd : C (p - d) = true
                · exact absurd ⟨d, by omega, hcd⟩ hex
                · simpa using hcd
          obtain ⟨t, h2, h3, h4⟩ := this d hd hd2
          exact ⟨t, by omega, h3, h4⟩
      · refine ⟨m, by omega, by rw [show p - (m : Int) - 1 = p - ((m + 1 : Nat) : Int) by omega]; exact h1, fun d hd => ?_⟩
        by_cases hcd : C (p - d) = true
        · exact absurd ⟨d, hd, hcd⟩ hall
        · simpa using hcd
/-! The first place -/
def candOf (size n : Int) (g : S52) : Int := if g.f0 + g.f1 - size ≥ n then 0 else g.f0
theorem fitStep_no (size n b : Int) (g : S52) (h : size < 1 ∨ size > g.f1) : fitStep size n b g = b := by
  unfold fitStep
  by_cases h1 : size < 1
  · rw [if_pos h1]
  · rw [if_neg h1, if_pos (by omega)]
theorem fitStep_yes (size n b : Int) (g : S52) (h1 : 1 ≤ size) (h2 : size ≤ g.f1) (h0 : 0 ≤ g.f0) : fitStep size n b g = if b < 0 then candOf size n g else if candOf size n g < b then candOf size n g else b := by
  unfold fitStep candOf fitLook
  rw [if_neg (by omega), if_neg (by omega)]
  repeat' split
  all_goals omega
theorem fit_fold (size n : Int) : ∀ (gs : List S52), (∀ g ∈ gs, 0 ≤ g.f0) → ∀ b : Int, -1 ≤ b →
    (0 ≤ b → 0 ≤ gs.foldl (fitStep size n) b ∧ gs.foldl (fitStep size n) b ≤ b) ∧ -1 ≤ gs.foldl (fitStep size n) b ∧
    (∀ g ∈ gs, 1 ≤ size → size ≤ g.f1 → 0 ≤ gs.foldl (fitStep size n) b ∧ gs.foldl (fitStep size n) b ≤ candOf size n g) ∧
    (gs.foldl (fitStep size n) b = b ∨ ∃ g ∈ gs, 1 ≤ size ∧ size ≤ g.f1 ∧ gs.foldl (fitStep size n) b = candOf size n g) := by
  intro gs
  induction gs with
  | nil => intro _ b hb; exact ⟨fun h => ⟨h, Int.le_refl _⟩, hb, fun g hg => by simp at hg, .inl rfl⟩
  | cons g gs ih =>
    intro h b hb
    have hg0 := h g (by simp)
    have h' := fun x hx => h x (List.mem_cons_of_mem _ hx)
    rw [List.foldl_cons]
    by_cases hf : size < 1 ∨ size > g.f1
    · rw [fitStep_no size n b g hf]
      obtain ⟨a1, a2, a3, a4⟩ := ih h' b hb
      refine ⟨a1, a2, fun x hx h1 h2 => ?_, a4.imp id (fun ⟨x, hx, e⟩ => ⟨x, List.mem_cons_of_mem _ hx, e⟩)⟩
      rcases List.mem_cons.1 hx with rfl | hx
      · omega
      · exact a3 x hx h1 h2
    · have hc0 : 0 ≤ candOf size n g := by unfold candOf; split <;> omega
      rw [fitStep_yes size n b g (by omega) (by omega) hg0]
      obtain ⟨c, hc⟩ : ∃ c, (if b < 0 then candOf size n g else if candOf size n g < b then candOf size n g else b) = c := ⟨_, rfl⟩
      rw [hc]
      have hcb : 0 ≤ c ∧ c ≤ candOf size n g ∧ (0 ≤ b → c ≤ b) ∧ (c = b ∨ c = candOf size n g) := by
        rw [← hc]; split
        · omega
        · split <;> omega
      obtain ⟨a1, a2, a3, a4⟩ := ih h' c (by omega)
      have a1' := a1 hcb.1
      refine ⟨fun hb0 => ⟨a1'.1, by have := hcb.2.2.1 hb0; omega⟩, a2, fun x hx h1 h2 => ?_, ?_⟩
      · rcases List.mem_cons.1 hx with rfl | hx
        · exact ⟨a1'.1, by omega⟩
        · exact a3 x hx h1 h2
      · rcases a4 with a4 | ⟨x, hx, e⟩
        · rcases hcb.2.2.2 with e | e
          · exact .inl (a4.trans e)
          · exact .inr ⟨g, by simp, by omega, by omega, a4.trans e⟩
        · exact .inr ⟨x, List.mem_cons_of_mem _ hx, e⟩
/-- What a list of gaps must be for 'Fit' to be right. -/
def GapsOk (C : Int → Bool) (N : Nat) (gs : List S52) : Prop :=
  (∀ g ∈ gs, 0 ≤ g.f0 ∧ g.f0 < N ∧ g.f1 = (run C g.f0 N : Nat)) ∧ ∀ (size : Nat) (p : Nat), 1 ≤ size → p < N → size ≤ run C p N → ∃ g ∈ gs, (size : Int) ≤ g.f1 ∧ (g.f0 ≤ p ∨ g.f0 + g.f1 - size ≥ N)
theorem fit_spec (C : Int → Bool) (N : Nat) (hp : ∀ x, C (x + N) = C x) (gs : List S52) (h : GapsOk C N gs) (size : Nat) (hs : 1 ≤ size) :
    (gs.foldl (fitStep size N) (-1) < 0 → ∀ p : Nat, p < N → run C p N < size) ∧
    (0 ≤ gs.foldl (fitStep size N) (-1) → gs.foldl (fitStep size N) (-1) < N ∧ size ≤ run C (gs.foldl (fitStep size N) (-1)) N ∧ ∀ p : Nat, (p : Int) < gs.foldl (fitStep size N) (-1) → run C p N < size) := by
  obtain ⟨h1, h2⟩ := h
  obtain ⟨_, a2, a3, a4⟩ := fit_fold size N gs (fun g hg => (h1 g hg).1) (-1) (by omega)
  generalize gs.foldl (fitStep size N) (-1) = r at *
  have key : ∀ p : Nat, p < N → size ≤ run C p N → 0 ≤ r ∧ r ≤ p := by
    intro p hpN hrun
    obtain ⟨g, hg, hgs, hor⟩ := h2 size p hs hpN hrun
    obtain ⟨b1, b2⟩ := a3 g hg (by omega) hgs
    refine ⟨b1, ?_⟩
    unfold candOf at b2
    split at b2 <;> omega
  refine ⟨fun hr p hpN => ?_, fun hr => ?_⟩
  · by_cases hc : size ≤ run C p N
    · have := key p hpN hc; omega
    · omega
  · rcases a4 with e | ⟨g, hg, c1, c2, e⟩
    · omega
    · obtain ⟨g0, g1, g2⟩ := h1 g hg
      have hrn : r < N := by rw [e]; unfold candOf; split <;> omega
      refine ⟨hrn, ?_, fun p hpr => ?_⟩
      · rw [e]
        unfold candOf
        split
        · rename_i hw
          refine run_ge C size N 0 (by have := run_le C N g.f0; omega) (fun d hd => ?_)
          have := run_free C N g.f0 (N + d - g.f0).toNat (by omega)
          rw [show g.f0 + (((N + d - g.f0).toNat : Nat) : Int) = 0 + (d : Int) + N by omega, hp] at this
          exact this
        · omega
      · by_cases hc : size ≤ run C p N
        · have := key p (by omega) hc; omega
        · omega
/-- Free places are in a gap that begins at them, or ahead of them. -/
theorem gap_of_free (C : Int → Bool) (N : Nat) (hp : ∀ x, C (x + N) = C x) (s : Int) (hs : C s = true) (size p : Nat) (h1 : 1 ≤ size) (hpN : p < N) (hr : size ≤ run C p N) :
    ∃ i : Nat, i < N ∧ gapAt C i = true ∧ size ≤ run C i N ∧ ((i : Int) ≤ p ∨ (i : Int) + (run C i N : Nat) - size ≥ N) := by
  have hp0 : C p = false := by
    have := run_free C N p 0 (by omega)
    rw [show (p : Int) + ((0 : Nat) : Int) = p by omega] at this; exact this
  have hpm : ∀ (k : Nat) (x : Int), C (x - (k : Int) * N) = C x := by
    intro k
    induction k with
    | zero => intro x; rw [show x - ((0 : Nat) : Int) * N = x by simp]
    | succ k ih => intro x; rw [← ih x, ← hp (x - ((k + 1 : Nat) : Int) * N)]; congr 1; rw [show ((k + 1 : Nat) : Int) * (N : Int) = k * N + N by rw [Int.natCast_add, Int.add_mul]; simp]; omega
  -- a covered place at most N - 1 back
  have hback : ∃ m : Nat, m < N ∧ C (p - m) = true := by
    have hN : (0 : Int) < N := by omega
    refine ⟨(((p : Int) - s) % N).toNat, ?_, ?_⟩
    · have := Int.emod_lt_of_pos ((p : Int) - s) hN; omega
    · have h0 := Int.emod_nonneg ((p : Int) - s) (b := N) (by omega)
      have hd := Int.emod_add_mul_ediv ((p : Int) - s) N
      rw [show ((((p : Int) - s) % N).toNat : Int) = ((p : Int) - s) % N by omega]
      have hq : (p : Int) - ((p : Int) - s) % N = s + N * (((p : Int) - s) / N) := by omega
      rw [hq]
      have hz : ∀ z : Int, C (s + N * z) = C s := by
        intro z
        rcases Int.le_total 0 z with hz | hz
        · obtain ⟨k, rfl⟩ : ∃ k : Nat, z = k := ⟨z.toNat, by omega⟩
          have := hpm k (s + N * (k : Int))
          rw [← this]; congr 1; rw [Int.mul_comm]; omega
        · obtain ⟨k, rfl⟩ : ∃ k : Nat, z = -(k : Int) := ⟨(-z).toNat, by omega⟩
          have := hpm k s
          rw [← this]; congr 1; rw [Int.mul_neg, Int.mul_comm]; omega
      rw [hz]; exact hs
  obtain ⟨m, hm, hcm⟩ := hback
  obtain ⟨t, ht, ht1, ht2⟩ := gap_back C p m hp0 hcm
  -- the gap's places
  have hfree : ∀ d : Nat, d < t + size → C (p - t + d) = false := by
    intro d hd
    by_cases hdt : d ≤ t
    · have := ht2 (t - d) (by omega)
      rw [show (p : Int) - t + d = p - ((t - d : Nat) : Int) by omega]; exact this
    · have := run_free C N p (d - t) (by omega)
      rw [show (p : Int) - t + d = p + ((d - t : Nat) : Int) by omega]; exact this
  have hle : t + size < N := by
    by_cases hc : t + size < N
    · exact hc
    · have := hfree (N - 1) (by omega)
      rw [show (p : Int) - t + ((N - 1 : Nat) : Int) = p - t - 1 + N by omega, hp, ht1] at this
      cases this
  have hrun := run_ge C (t + size) N (p - t) (by omega) hfree
  have hga : gapAt C (p - t) = true := by
    unfold gapAt
    have := ht2 t (Nat.le_refl _)
    rw [this, ht1]; rfl
  by_cases hpt : t ≤ p
  · exact ⟨p - t, by omega, by rw [show ((p - t : Nat) : Int) = p - t by omega]; exact hga, by rw [show ((p - t : Nat) : Int) = p - t by omega]; omega, .inl (by omega)⟩
  · have he : ((p + N - t : Nat) : Int) = p - t + N := by omega
    have hr2 : run C (p - t + N) N = run C (p - t) N := by
      have := run_shift C (-(N : Int)) N (p - t)
      rw [show (fun y : Int => C (y - -(N : Int))) = C from funext (fun y => by rw [show y - -(N : Int) = y + N by omega, hp])] at this
      rw [this, show (p : Int) - t - -(N : Int) = p - t + N by omega]
    refine ⟨p + N - t, by omega, ?_, ?_, .inr ?_⟩
    · rw [he]
      unfold gapAt at *
      rw [hp, show (p : Int) - t + N - 1 = p - t - 1 + N by omega, hp]; exact hga
    · rw [he, hr2]; omega
    · rw [he, hr2]; omega

end Go.Proofs.Ythnpacnmghlkmaa
