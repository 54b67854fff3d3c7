/- SumBursts, the plain law: bits turned within 32 that follow one another turn the sum. -/
import Derived.Test.YtenbdejhakdihaaDoorPx2
import Derived.OpenShut
namespace Go.Proofs.YtenbdejhakdihaaDoor.PureBursts
open Go.RowKit Go.Proofs.YtenbdejhakdihaaDoor.Px Go.Proofs.YtenbdejhakdihaaDoorW.PrintWords Go.Proofs.YtenbdejhakdihaaDoorW.PrintLast Go.Proofs.YtenbdejhakdihaaDoorW.PrintMore Go.Proofs.YtenbdejhakdihaaDoor

theorem rd_get {l : List Int} {i : Nat} (h : i < l.length) : rd l (i : Int) = l[i] := by
  unfold rd
  rw [Int.toNat_natCast, List.getD_eq_getElem?_getD, List.getElem?_eq_getElem h]
  rfl
/-- The bits that are turned in the first i rounds. -/
def mm (a : Int) (K mask : Nat) : Nat → Nat
  | 0 => 0
  | j + 1 => if 0 ≤ a ∧ a + j < K ∧ mask / 2 ^ j % 2 = 1 then mm a K mask j ^^^ 2 ^ j else mm a K mask j
theorem mm_lt (a : Int) (K mask : Nat) : ∀ j, mm a K mask j < 2 ^ j
  | 0 => by simp [mm]
  | j + 1 => by
    have ih := mm_lt a K mask j
    have h2 : 2 ^ j < 2 ^ (j + 1) := Nat.pow_lt_pow_right (by decide) (Nat.lt_succ_self j)
    unfold mm
    split
    · exact Nat.xor_lt_two_pow (Nat.lt_trans ih h2) h2
    · omega
theorem mm_lt2 (a : Nat) (K mask : Nat) : ∀ j, mm a K mask j < 2 ^ (K - a)
  | 0 => by unfold mm; exact Nat.two_pow_pos _
  | j + 1 => by
    have ih := mm_lt2 a K mask j
    unfold mm
    split
    · rename_i h
      exact Nat.xor_lt_two_pow ih (Nat.pow_lt_pow_right (by decide) (by omega))
    · exact ih
theorem mm_neg {a : Int} (h : a < 0) (K mask : Nat) : ∀ j, mm a K mask j = 0
  | 0 => rfl
  | j + 1 => by unfold mm; rw [if_neg (by omega)]; exact mm_neg h K mask j
theorem mm_ne (a : Int) (K mask j : Nat) (h : 0 ≤ a ∧ a + j < K ∧ mask / 2 ^ j % 2 = 1) : mm a K mask (j + 1) ≠ 0 := by
  unfold mm
  rw [if_pos h]
  intro e
  have := Crc.xor_eq_zero e
  have := mm_lt a K mask j
  omega
theorem wrap_in (x : Int) (h0 : -9223372036854775808 ≤ x) (h1 : x ≤ 9223372036854775807) : wrap64 x = x := by unfold wrap64; omega
theorem shr_u32 (m i : Nat) (hi : i ≤ 32) : shr .u32 (m : Int) (i : Int) = ((m / 2 ^ i : Nat) : Int) := by
  unfold shr
  rw [Int.toNat_natCast, show IntKind.u32.bits = 32 from rfl, Nat.min_eq_left hi, Int.natCast_ediv, Int.natCast_pow]
  rfl
theorem shl_u8 : ∀ r : Nat, r < 8 → shl .u8 1 (r : Int) = ((2 ^ r : Nat) : Int) := by decide
theorem tmod2 (q : Nat) : Int.tmod (q : Int) 2 = ((q % 2 : Nat) : Int) := by
  rw [Int.tmod_eq_emod_of_nonneg (by omega)]; omega
theorem tmod8 (q : Nat) : Int.tmod (q : Int) 8 = ((q % 8 : Nat) : Int) := by
  rw [Int.tmod_eq_emod_of_nonneg (by omega)]; omega
theorem tdiv8 (q : Nat) : Int.tdiv (q : Int) 8 = ((q / 8 : Nat) : Int) := by
  rw [Int.tdiv_eq_ediv_of_nonneg (by omega)]; omega
theorem u64_small (q : Nat) (h : q < 100) : IntKind.u64.wrap (q : Int) = (q : Int) := by
  rw [IntKind.wrap_u64]; omega
/-- What the loop keeps. -/
structure Inv (b : List Int) (a : Int) (mask : Nat) (i : Nat) (x : List Int) (t : Bool) : Prop where
  len : x.length = b.length
  bytes : ∀ y ∈ x, 0 ≤ y ∧ y < 256
  big : Crc.big (x.map Int.toNat) = Crc.big (b.map Int.toNat) ^^^ mm a (8 * b.length) mask i * 2 ^ a.toNat
  told : t = decide (mm a (8 * b.length) mask i ≠ 0)
theorem Inv.skip {b : List Int} {a : Int} {mask i : Nat} {x : List Int} {t : Bool} (h : Inv b a mask i x t) (hn : ¬ (0 ≤ a ∧ a + i < (8 * b.length : Nat) ∧ mask / 2 ^ i % 2 = 1)) : Inv b a mask (i + 1) x t := by
  have e : mm a (8 * b.length) mask (i + 1) = mm a (8 * b.length) mask i := by
    conv => lhs; unfold mm
    rw [if_neg hn]
  exact ⟨h.len, h.bytes, by rw [e]; exact h.big, by rw [e]; exact h.told⟩
theorem Inv.turn {b : List Int} {a : Int} {mask i : Nat} {x : List Int} {t : Bool} (h : Inv b a mask i x t) (hn : 0 ≤ a ∧ a + i < (8 * b.length : Nat) ∧ mask / 2 ^ i % 2 = 1) (p : Nat) (hp : (p : Int) = a + i) :
    Inv b a mask (i + 1) (x.set (p / 8) (Go.bits .xor .u8 (rd x ((p / 8 : Nat) : Int)) ((2 ^ (p % 8) : Nat) : Int))) true := by
  have hq : p / 8 < x.length := by have := h.len; omega
  have hr : p % 8 < 8 := Nat.mod_lt _ (by decide)
  have hpow : 2 ^ (p % 8) < 256 := Nat.pow_lt_pow_right (a := 2) (m := p % 8) (n := 8) (by decide) hr
  have hb := h.bytes _ (List.getElem_mem hq)
  obtain ⟨two, htwo⟩ : ∃ z : Nat, 2 ^ (p % 8) = z := ⟨_, rfl⟩
  have ev : Go.bits .xor .u8 (rd x ((p / 8 : Nat) : Int)) ((2 ^ (p % 8) : Nat) : Int) = ((x[p / 8].toNat ^^^ 2 ^ (p % 8) : Nat) : Int) := by
    rw [htwo] at hpow ⊢
    rw [rd_get hq, u8_xor _ _ hb.1 hb.2 (by omega) (by omega), Int.toNat_natCast]
  have hlt : x[p / 8].toNat ^^^ 2 ^ (p % 8) < 256 := Nat.xor_lt_two_pow (n := 8) (by omega) hpow
  rw [ev]
  have e : mm a (8 * b.length) mask (i + 1) = mm a (8 * b.length) mask i ^^^ 2 ^ i := by
    conv => lhs; unfold mm
    rw [if_pos hn]
  refine ⟨by rw [List.length_set]; exact h.len, ?_, ?_, ?_⟩
  · intro y hy
    rcases List.mem_or_eq_of_mem_set hy with hy | hy
    · exact h.bytes y hy
    · rw [hy]; omega
  · rw [List.map_set, Int.toNat_natCast]
    have := Crc.big_set (x.map Int.toNat) (p / 8) (p % 8) (x[p / 8].toNat) (by rw [List.getElem?_map, List.getElem?_eq_getElem hq]; rfl) (fun c hc => by
      obtain ⟨y, hy, rfl⟩ := List.mem_map.1 hc
      have := h.bytes y hy
      omega) hr
    rw [this, h.big, e, Nat.div_add_mod, Nat.xor_assoc]
    congr 1
    have h1 := Nat.shiftLeft_xor_distrib (a := mm a (8 * b.length) mask i) (b := 2 ^ i) (i := a.toNat)
    rw [Nat.shiftLeft_eq, Nat.shiftLeft_eq, Nat.shiftLeft_eq, ← Nat.pow_add] at h1
    rw [h1, show p = i + a.toNat by omega]
  · have := mm_ne a (8 * b.length) mask i hn
    simp [this]
theorem Inv.end_ {b : List Int} {a : Int} {mask : Nat} {x : List Int} {t : Bool} (h : Inv b a mask 32 x t) (hb : ∀ y ∈ b, 0 ≤ y ∧ y < 256) : ((more 0 x != more 0 b) == t) = true := by
  have hbn : ∀ (l : List Int), (∀ y ∈ l, 0 ≤ y ∧ y < 256) → ∀ c ∈ l.map Int.toNat, c < 256 := fun l hl c hc => by
    obtain ⟨y, hy, rfl⟩ := List.mem_map.1 hc
    have := hl y hy
    omega
  have e1 := Crc.crc_feed (x.map Int.toNat) (4294967295 ^^^ 0) (hbn x h.bytes)
  have e2 := Crc.crc_feed (b.map Int.toNat) (4294967295 ^^^ 0) (hbn b hb)
  rw [List.length_map, h.len, h.big] at e1
  rw [List.length_map] at e2
  have e3 := Crc.feed_xor (8 * b.length) (4294967295 ^^^ 0) 0 (Crc.big (b.map Int.toNat)) (mm a (8 * b.length) mask 32 * 2 ^ a.toNat)
  rw [Nat.xor_zero (4294967295 ^^^ 0), ← e2, ← e1] at e3
  have key : Crc.feed (8 * b.length) 0 (mm a (8 * b.length) mask 32 * 2 ^ a.toNat) = 0 ↔ mm a (8 * b.length) mask 32 = 0 := by
    by_cases h0 : mm a (8 * b.length) mask 32 = 0
    · rw [h0, Nat.zero_mul, Crc.feed_none, Crc.stepN_zero]
    · have ha : 0 ≤ a := by
        rcases Int.lt_or_le a 0 with hn | hn
        · exact absurd (mm_neg hn _ _ _) h0
        · exact hn
      obtain ⟨A, rfl⟩ := Int.eq_ofNat_of_zero_le ha
      have l1 := mm_lt (A : Int) (8 * b.length) mask 32
      have l2 := mm_lt2 A (8 * b.length) mask 32
      rw [Int.toNat_natCast]
      by_cases hk : 32 ≤ 8 * b.length - A
      · exact Crc.burst _ A _ 32 (Nat.le_refl _) l1 (by omega)
      · by_cases hz : A ≤ 8 * b.length
        · exact Crc.burst _ A _ (8 * b.length - A) (by omega) l2 (by omega)
        · rw [show 8 * b.length - A = 0 by omega] at l2
          omega
  have hne : (more 0 x != more 0 b) = decide (mm a (8 * b.length) mask 32 ≠ 0) := by
    unfold more
    rw [e3]
    by_cases h0 : mm a (8 * b.length) mask 32 = 0
    · rw [key.2 h0]; simp [h0]
    · have hf : Crc.feed (8 * b.length) 0 (mm a (8 * b.length) mask 32 * 2 ^ a.toNat) ≠ 0 := fun e => h0 (key.1 e)
      simp only [ne_eq, h0, not_false_eq_true, decide_true, bne_iff_ne]
      intro e
      apply hf
      have := congrArg (fun z => Crc.crc (4294967295 ^^^ 0) (b.map Int.toNat) ^^^ (4294967295 ^^^ z)) e
      simp only [xor_twice, Nat.xor_self] at this
      exact this
  rw [hne, h.told]
  simp

theorem loop (b : List Int) (a : Int) (mask : Nat) (hlen : b.length ≤ 100000) (hb : ∀ y ∈ b, 0 ≤ y ∧ y < 256) (ha : -9223372036854775808 ≤ a ∧ a ≤ 9223372036854775807) (hm : mask < 4294967296) :
    ∀ (d k i : Nat) (x : List Int) (t : Bool), 32 - i = d → i ≤ 32 → d < k → Inv b a mask i x t → rotalaw01_SumBursts.l0 k b a (mask : Int) true x t (i : Int) = some true := by
  intro d
  induction d with
  | zero =>
    intro k i x t hd hi hk hI
    obtain ⟨k, rfl⟩ : ∃ n, k = n + 1 := ⟨k - 1, by omega⟩
    obtain rfl : i = 32 := by omega
    have f : ∀ l : List Int, l.length = b.length → (∀ y ∈ l, 0 ≤ y ∧ y < 256) → sum_Sum.f l = some ((more 0 l : Nat) : Int) := fun l hl w => by
      unfold sum_Sum.f; rw [if_pos (isBytes_mk (by omega) w)]
    simp only [rotalaw01_SumBursts.l0]
    rw [if_neg (by omega), if_pos trivial, f x hI.len hI.bytes, Option.bind_some, f b rfl hb, Option.bind_some]
    have := hI.end_ hb
    congr 1
    rw [← this]
    congr 1
    by_cases e : more 0 x = more 0 b
    · simp [e]
    · have : ((more 0 x : Nat) : Int) ≠ ((more 0 b : Nat) : Int) := by omega
      rw [bne_iff_ne.2 this, bne_iff_ne.2 e]
  | succ d ih =>
    intro k i x t hd hi hk hI
    obtain ⟨k, rfl⟩ : ∃ n, k = n + 1 := ⟨k - 1, by omega⟩
    have hw : wrap64 ((i : Int) + 1) = ((i + 1 : Nat) : Int) := by rw [wrap_in _ (by omega) (by omega)]; omega
    have hb64 : wrap64 (wrap64 (wrap64 (8 * (b.length : Int)) - 1) - (i : Int)) = 8 * (b.length : Int) - 1 - i := by
      rw [wrap_in (8 * (b.length : Int)) (by omega) (by omega), wrap_in (8 * (b.length : Int) - 1) (by omega) (by omega), wrap_in _ (by omega) (by omega)]
    have hu : IntKind.u64.wrap (i : Int) = (i : Int) := u64_small i (by omega)
    have hsh : Int.tmod (shr .u32 (mask : Int) (i : Int)) 2 = ((mask / 2 ^ i % 2 : Nat) : Int) := by
      rw [shr_u32 mask i (by omega), tmod2]
    obtain ⟨bit, hbit⟩ : ∃ z : Nat, mask / 2 ^ i % 2 = z := ⟨_, rfl⟩
    have hbit2 : bit < 2 := by rw [← hbit]; exact Nat.mod_lt _ (by decide)
    rw [hbit] at hsh
    simp only [rotalaw01_SumBursts.l0]
    rw [if_pos (by omega), hw, hb64, hu, hsh]
    by_cases h1 : a < 0
    · rw [if_pos h1]
      exact ih k (i + 1) x t (by omega) (by omega) (by omega) (hI.skip (by omega))
    · rw [if_neg h1]
      by_cases h2 : a > 8 * (b.length : Int) - 1 - i
      · rw [if_pos h2]
        exact ih k (i + 1) x t (by omega) (by omega) (by omega) (hI.skip (by omega))
      · rw [if_neg h2, if_pos (by omega)]
        by_cases h3 : bit = 0
        · rw [if_pos (by rw [h3]; rfl)]
          exact ih k (i + 1) x t (by omega) (by omega) (by omega) (hI.skip (fun h => by have := h.2.2; omega))
        · rw [if_neg (by omega)]
          have h4 : mask / 2 ^ i % 2 = 1 := by omega
          obtain ⟨p, hp⟩ : ∃ p : Nat, (p : Int) = a + i := ⟨(a + i).toNat, by omega⟩
          have hwp : wrap64 (a + (i : Int)) = (p : Int) := by rw [wrap_in _ (by omega) (by omega)]; omega
          have hq : wrap64 (Int.tdiv (wrap64 (a + (i : Int))) 8) = ((p / 8 : Nat) : Int) := by
            rw [hwp, tdiv8, wrap_in _ (by omega) (by omega)]
          have hr : IntKind.u64.wrap (Int.tmod (wrap64 (a + (i : Int))) 8) = ((p % 8 : Nat) : Int) := by
            rw [hwp, tmod8, u64_small _ (by omega)]
          have hs : shl .u8 1 ((p % 8 : Nat) : Int) = ((2 ^ (p % 8) : Nat) : Int) := shl_u8 _ (Nat.mod_lt _ (by decide))
          have hxl := hI.len
          rw [hq, hr, hs, if_pos (by omega), if_pos (by omega), if_pos (by omega), Int.toNat_natCast]
          exact ih k (i + 1) _ true (by omega) (by omega) (by omega) (hI.turn ⟨by omega, by omega, h4⟩ p hp)

theorem SumBursts : rotalaw01_SumBursts.Pure := by
  intro l a m _ _ w0 wa wm
  have w0 := bytes_wf w0
  have ba := bounds_i64 wa
  have bm := bounds_u32 wm
  obtain ⟨mask, rfl⟩ := Int.eq_ofNat_of_zero_le bm.1
  refine ⟨34, ?_⟩
  unfold rotalaw01_SumBursts.f rotalaw01_alive.f
  rw [Option.bind_some]
  by_cases hbig : (l.length : Int) > 100000
  · rw [if_pos hbig]; simp [rotalaw01_SumBursts.j0]
  · rw [if_neg hbig]
    simp only [rotalaw01_SumBursts.j0]
    rw [if_neg (by simp), Option.bind_some, if_pos (by simp; omega), List.nil_append]
    exact loop l a mask (by omega) w0 ba (by omega) 32 33 0 l false (by omega) (by omega) (by omega) ⟨rfl, w0, by simp [mm], by simp [mm]⟩

theorem sumBursts_walk (w : World) (A0 : Option Addr) (c0 : Nat) (l0 : List Int) (hr0 : Kd.C (Kd.int .u8) w A0 l0.length l0) (hc0 : l0.length ≤ c0) (y0 : l0.length * 1 ≤ 140737488351232) (hw0 : ∀ x ∈ l0, (Lit.int .u8 x).wf = true)
    (a1 : Int) (w1 : (Lit.int .i64 a1).wf = true) (a2 : Int) (w2 : (Lit.int .u32 a2).wf = true) (hN : NibsAt w) :
    Calls Tryd.prog 5 #[.slice A0 l0.length c0, .int .i64 a1, .int .u32 a2] w fun e w' => e = .returned (.bool true) ∧ Below w.heap.size w w' := by
  obtain ⟨k, h⟩ := SumBursts l0 a1 a2 (by unfold maxLen; omega) y0 hw0 w1 w2
  exact rotalaw01_SumBursts.calls k A0 c0 l0 a1 a2 true w hN hr0 hc0 h
end Go.Proofs.YtenbdejhakdihaaDoor.PureBursts
