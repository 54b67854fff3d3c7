/- Plain facts on the check sum: linear, one to one, bursts; no program in sight. -/
namespace Go.Proofs.YtenbdejhakdihaaDoor.Crc
def step (n : Nat) : Nat := if n % 2 = 1 then n / 2 ^^^ 3988292384 else n / 2
theorem xor_div (a b : Nat) : (a ^^^ b) / 2 = a / 2 ^^^ b / 2 := by
  have := Nat.shiftRight_xor_distrib (a := a) (b := b) (i := 1)
  simpa [Nat.shiftRight_eq_div_pow] using this
theorem xor_mod (a b : Nat) : (a ^^^ b) % 2 = (a % 2 + b % 2) % 2 := by
  have h := Nat.testBit_xor a b 0
  simp only [Nat.testBit_zero] at h
  rcases Nat.mod_two_eq_zero_or_one a with ha | ha <;> rcases Nat.mod_two_eq_zero_or_one b with hb | hb <;> rcases Nat.mod_two_eq_zero_or_one (a ^^^ b) with hc | hc <;> simp_all
theorem xor_eq_zero {a b : Nat} (h : a ^^^ b = 0) : a = b := by
  have : a ^^^ (a ^^^ b) = b := by rw [← Nat.xor_assoc, Nat.xor_self, Nat.zero_xor]
  rw [h, Nat.xor_zero] at this; exact this
theorem xor_comm4 (a b p : Nat) : a ^^^ b = (a ^^^ p) ^^^ (b ^^^ p) := by
  rw [Nat.xor_assoc, Nat.xor_comm b p, ← Nat.xor_assoc p p b, Nat.xor_self, Nat.zero_xor]
theorem xor_right (a b p : Nat) : a ^^^ b ^^^ p = a ^^^ (b ^^^ p) := Nat.xor_assoc a b p
theorem xor_left (a b p : Nat) : a ^^^ b ^^^ p = (a ^^^ p) ^^^ b := by
  rw [Nat.xor_assoc, Nat.xor_comm b p, ← Nat.xor_assoc]
theorem step_xor (a b : Nat) : step (a ^^^ b) = step a ^^^ step b := by
  unfold step
  rw [xor_mod, xor_div]
  rcases Nat.mod_two_eq_zero_or_one a with ha | ha <;> rcases Nat.mod_two_eq_zero_or_one b with hb | hb <;> simp only [ha, hb]
  · simp
  · simp [xor_right]
  · simp [xor_left]
  · simp only [Nat.reduceAdd, Nat.reduceMod, Nat.zero_ne_one, if_false, if_true]
    exact xor_comm4 _ _ _
theorem step_zero : step 0 = 0 := rfl
theorem step_lt {n : Nat} (h : n < 4294967296) : step n < 4294967296 := by
  unfold step
  split
  · exact Nat.xor_lt_two_pow (n := 32) (by omega) (by omega)
  · omega
theorem step_eq_zero {n : Nat} (h : n < 4294967296) (h0 : step n = 0) : n = 0 := by
  unfold step at h0
  split at h0
  · have : n / 2 = 3988292384 := xor_eq_zero h0
    omega
  · omega
theorem step_two (c : Nat) : step (2 * c) = c := by
  unfold step
  rw [if_neg (by omega)]; omega
def stepN : Nat → Nat → Nat
  | 0, n => n
  | k + 1, n => stepN k (step n)
theorem stepN_lt : ∀ k n, n < 4294967296 → stepN k n < 4294967296
  | 0, _, h => h
  | k + 1, _, h => stepN_lt k _ (step_lt h)
theorem stepN_eq_zero : ∀ k n, n < 4294967296 → stepN k n = 0 → n = 0
  | 0, _, _, h => h
  | k + 1, _, h, h0 => step_eq_zero h (stepN_eq_zero k _ (step_lt h) h0)
theorem stepN_zero : ∀ k, stepN k 0 = 0
  | 0 => rfl
  | k + 1 => by rw [stepN, step_zero]; exact stepN_zero k
theorem stepN_add (j : Nat) : ∀ k n, stepN (k + j) n = stepN j (stepN k n)
  | 0, n => by rw [Nat.zero_add]; rfl
  | k + 1, n => by rw [show k + 1 + j = (k + j) + 1 from by omega]; exact stepN_add j k _
theorem stepN_xor : ∀ k a b, stepN k (a ^^^ b) = stepN k a ^^^ stepN k b
  | 0, _, _ => rfl
  | k + 1, a, b => by rw [stepN, step_xor]; exact stepN_xor k _ _
/-- bits of V, the lowest first -/
def feed : Nat → Nat → Nat → Nat
  | 0, n, _ => n
  | k + 1, n, v => feed k (step (n ^^^ v % 2)) (v / 2)
theorem xor_mod' (a b : Nat) : (a ^^^ b) % 2 = a % 2 ^^^ b % 2 := by
  rw [xor_mod]
  rcases Nat.mod_two_eq_zero_or_one a with ha | ha <;> rcases Nat.mod_two_eq_zero_or_one b with hb | hb <;> simp [ha, hb]
theorem four (a b c d : Nat) : (a ^^^ b) ^^^ (c ^^^ d) = (a ^^^ c) ^^^ (b ^^^ d) := by
  rw [Nat.xor_assoc, Nat.xor_assoc, ← Nat.xor_assoc b c d, Nat.xor_comm b c, Nat.xor_assoc c b d]
theorem feed_xor : ∀ k a b v w, feed k (a ^^^ b) (v ^^^ w) = feed k a v ^^^ feed k b w
  | 0, _, _, _, _ => rfl
  | k + 1, a, b, v, w => by
    rw [feed, xor_mod', four, step_xor, xor_div]
    exact feed_xor k _ _ _ _
theorem mod_xor (v : Nat) : v = v % 2 ^^^ 2 * (v / 2) := by
  have h : v % 2 ^^^ 2 * (v / 2) = 2 * (v / 2) + v % 2 := by
    rcases Nat.mod_two_eq_zero_or_one v with h | h
    · rw [h]; simp
    · rw [h, Nat.xor_comm]
      have := Nat.two_pow_add_eq_or_of_lt (b := 1) (i := 1) (by decide) (v / 2)
      rw [show (2 : Nat) * (v / 2) = 2 ^ 1 * (v / 2) from rfl, this]
      apply Nat.eq_of_testBit_eq
      intro i
      rw [Nat.testBit_xor, Nat.testBit_or]
      cases i with
      | zero => simp
      | succ i => simp [Nat.testBit_succ]
  omega
theorem feed_eq : ∀ k n v, v < 2 ^ k → feed k n v = stepN k (n ^^^ v)
  | 0, n, v, h => by
    obtain rfl : v = 0 := by simpa using h
    simp [feed, stepN]
  | k + 1, n, v, h => by
    rw [feed, stepN, feed_eq k _ _ (by rw [Nat.pow_succ] at h; omega)]
    congr 1
    conv => rhs; rw [mod_xor v, ← Nat.xor_assoc, step_xor, step_two]
theorem feed_none : ∀ k n, feed k n 0 = stepN k n
  | 0, _ => rfl
  | k + 1, n => by rw [feed, stepN]; simpa using feed_none k _
theorem feed_add (j : Nat) : ∀ k n v, feed (k + j) n v = feed j (feed k n v) (v / 2 ^ k)
  | 0, n, v => by simp [feed]
  | k + 1, n, v => by
    rw [show k + 1 + j = (k + j) + 1 from by omega, feed, feed_add j k]
    rw [feed, Nat.div_div_eq_div_mul, Nat.pow_succ, Nat.mul_comm]
theorem feed_shift (m : Nat) : ∀ at_ k, feed (at_ + k) 0 (m * 2 ^ at_) = feed k 0 m
  | 0, k => by simp
  | a + 1, k => by
    rw [show a + 1 + k = (a + k) + 1 from by omega, feed]
    have h0 : m * 2 ^ (a + 1) = 2 * (m * 2 ^ a) := by rw [Nat.pow_succ, ← Nat.mul_assoc, Nat.mul_comm]
    have h1 : m * 2 ^ (a + 1) % 2 = 0 := by rw [h0]; omega
    have h2 : m * 2 ^ (a + 1) / 2 = m * 2 ^ a := by rw [h0]; omega
    rw [h1, h2]
    exact feed_shift m a k
/-- A burst of at most 32 bits turns the state. -/
theorem burst (K at_ m k : Nat) (hk : k ≤ 32) (hm : m < 2 ^ k) (hK : at_ + k ≤ K) : feed K 0 (m * 2 ^ at_) = 0 ↔ m = 0 := by
  obtain ⟨r, rfl⟩ : ∃ r, K = at_ + (k + r) := ⟨K - at_ - k, by omega⟩
  rw [feed_shift, feed_add, Nat.div_eq_of_lt hm, feed_none, feed_eq k 0 m hm, Nat.zero_xor]
  have hm32 : m < 4294967296 := Nat.lt_of_lt_of_le hm (Nat.pow_le_pow_right (n := 2) (by decide) hk)
  constructor
  · intro h
    exact stepN_eq_zero _ _ hm32 (stepN_eq_zero _ _ (stepN_lt _ _ hm32) h)
  · rintro rfl
    rw [stepN_zero, stepN_zero]
/-- a byte -/
def byte (n c : Nat) : Nat := stepN 8 (n ^^^ c)
def crc (n : Nat) (l : List Nat) : Nat := l.foldl byte n
def big : List Nat → Nat
  | [] => 0
  | c :: l => c + 256 * big l
theorem big_mod (c : Nat) (l : List Nat) (h : c < 256) : c + 256 * big l = c ^^^ big l * 2 ^ 8 := by
  have := Nat.two_pow_add_eq_or_of_lt (b := c) (i := 8) h (big l)
  rw [show c + 256 * big l = 2 ^ 8 * big l + c from by omega, this]
  apply Nat.eq_of_testBit_eq
  intro i
  rw [Nat.testBit_or, Nat.testBit_xor, Nat.mul_comm (big l)]
  by_cases hi : i < 8
  · have : (2 ^ 8 * big l).testBit i = false := by
      rw [Nat.testBit_two_pow_mul]; simp; omega
    rw [this]; simp
  · have : c.testBit i = false := Nat.testBit_lt_two_pow (Nat.lt_of_lt_of_le h (Nat.pow_le_pow_right (n := 2) (i := 8) (j := i) (by decide) (by omega)))
    rw [this]; simp
theorem feed_low : ∀ k n c v, c < 2 ^ k → feed k n (c ^^^ v * 2 ^ k) = feed k n c
  | k, n, c, v, h => by
    have h1 := feed_xor k n 0 c (v * 2 ^ k)
    rw [Nat.xor_zero] at h1
    have h2 := feed_shift v k 0
    rw [Nat.add_zero] at h2
    rw [h1, h2]; simp [feed]
theorem crc_feed : ∀ (l : List Nat) n, (∀ c ∈ l, c < 256) → crc n l = feed (8 * l.length) n (big l)
  | [], _, _ => rfl
  | c :: l, n, h => by
    have hc : c < 256 := h c (by simp)
    show crc (byte n c) l = _
    rw [crc_feed l _ (fun x hx => h x (by simp [hx]))]
    rw [show 8 * (c :: l).length = 8 + 8 * l.length from by simp; omega, feed_add, big]
    have e1 : (c + 256 * big l) / 2 ^ 8 = big l := by omega
    rw [e1, big_mod c l hc, feed_low 8 _ _ _ hc, feed_eq 8 n c hc]
    rfl
theorem crc_append (n : Nat) (a b : List Nat) : crc n (a ++ b) = crc (crc n a) b := List.foldl_append ..
theorem byte_xor (a b c d : Nat) : byte (a ^^^ b) (c ^^^ d) = byte a c ^^^ byte b d := by
  unfold byte; rw [four, stepN_xor]
theorem crc_xor : ∀ (xs ys : List Nat) a b, xs.length = ys.length → crc (a ^^^ b) (List.zipWith (· ^^^ ·) xs ys) = crc a xs ^^^ crc b ys
  | [], [], _, _, _ => rfl
  | [], _ :: _, _, _, h => by simp at h
  | _ :: _, [], _, _, h => by simp at h
  | x :: xs, y :: ys, a, b, h => by
    show crc (byte (a ^^^ b) (x ^^^ y)) (List.zipWith (· ^^^ ·) xs ys) = _
    rw [byte_xor]
    exact crc_xor xs ys _ _ (by simpa using h)
theorem crc_lt : ∀ (l : List Nat) n, n < 4294967296 → (∀ c ∈ l, c < 256) → crc n l < 4294967296
  | [], _, h, _ => h
  | c :: l, n, h, hl => crc_lt l _ (stepN_lt 8 _ (Nat.xor_lt_two_pow (n := 32) h (Nat.lt_of_lt_of_le (hl c (by simp)) (by decide)))) (fun x hx => hl x (by simp [hx]))
/-- turning one bit of one byte -/
theorem big_set : ∀ (l : List Nat) (j r : Nat) (c : Nat), l[j]? = some c → (∀ c ∈ l, c < 256) → r < 8 → big (l.set j (c ^^^ 2 ^ r)) = big l ^^^ 2 ^ (8 * j + r)
  | [], j, r, c, h, _, _ => by simp at h
  | x :: l, 0, r, c, h, hl, hr => by
    obtain rfl : x = c := by simpa using h
    have hx := hl x (by simp)
    have hx2 : x ^^^ 2 ^ r < 256 := Nat.xor_lt_two_pow (n := 8) hx (Nat.pow_lt_pow_right (a := 2) (by decide) hr)
    rw [List.set_cons_zero, big, big, big_mod _ _ hx2, big_mod _ _ hx, Nat.mul_zero, Nat.zero_add]
    exact (xor_left x (big l * 2 ^ 8) (2 ^ r)).symm
  | x :: l, j + 1, r, c, h, hl, hr => by
    have hx := hl x (by simp)
    have ih := big_set l j r c (by simpa using h) (fun y hy => hl y (by simp [hy])) hr
    rw [List.set_cons_succ, big, big, big_mod _ _ hx, big_mod _ _ hx, ih, Nat.xor_assoc]
    congr 1
    have h1 := Nat.shiftLeft_xor_distrib (a := big l) (b := 2 ^ (8 * j + r)) (i := 8)
    rw [Nat.shiftLeft_eq, Nat.shiftLeft_eq, Nat.shiftLeft_eq, ← Nat.pow_add] at h1
    rw [h1, show 8 * (j + 1) + r = 8 * j + r + 8 from by omega]
def nibs : List Nat := [0x00000000, 0x1db71064, 0x3b6e20c8, 0x26d930ac, 0x76dc4190, 0x6b6b51f4, 0x4db26158, 0x5005713c, 0xedb88320, 0xf00f9344, 0xd6d6a3e8, 0xcb61b38c, 0x9b64c2b0, 0x86d3d2d4, 0xa00ae278, 0xbdbdf21c]
def nib (n : Nat) : Nat := n / 16 ^^^ nibs.getD (n % 16) 0
theorem nibs_eq : ∀ i, i < 16 → nibs.getD i 0 = stepN 4 i := by decide
theorem stepN_shift : ∀ k c, stepN k (c * 2 ^ k) = c
  | 0, c => by simp [stepN]
  | k + 1, c => by
    rw [stepN, Nat.pow_succ, ← Nat.mul_assoc, Nat.mul_comm _ 2, step_two]
    exact stepN_shift k c
theorem low_high (k n : Nat) : n = n % 2 ^ k ^^^ (n / 2 ^ k) * 2 ^ k := by
  apply Nat.eq_of_testBit_eq
  intro i
  rw [Nat.testBit_xor, Nat.testBit_mod_two_pow, Nat.testBit_mul_two_pow, Nat.testBit_div_two_pow]
  by_cases h : i < k
  · simp [h, Nat.not_le.2 h]
  · simp [h, Nat.not_lt.1 h]
theorem nib_eq (n : Nat) : nib n = stepN 4 n := by
  conv => rhs; rw [low_high 4 n, stepN_xor, stepN_shift]
  unfold nib
  rw [nibs_eq _ (Nat.mod_lt _ (by decide)), Nat.xor_comm]
theorem nib_nib (n : Nat) : nib (nib n) = stepN 8 n := by
  rw [nib_eq, nib_eq]; exact (stepN_add 4 4 n).symm
theorem table_byte (n : Nat) : stepN 8 n = n / 256 ^^^ stepN 8 (n % 256) := by
  conv => lhs; rw [low_high 8 n, stepN_xor, stepN_shift]
  rw [Nat.xor_comm]
end Go.Proofs.YtenbdejhakdihaaDoor.Crc
