/- SumLinear, the plain law: three texts of one length, laid over one another, have all three sums laid over one another. -/
import Derived.Test.YtenbdejhakdihaaDoorPx1
namespace Go.Proofs.YtenbdejhakdihaaDoor.Pure
open Go.RowKit Go.Proofs.YtenbdejhakdihaaDoor.Px Go.Proofs.YtenbdejhakdihaaDoorW.PrintWords Go.Proofs.YtenbdejhakdihaaDoorW.PrintLast Go.Proofs.YtenbdejhakdihaaDoor

theorem rd_get {l : List Int} {i : Nat} (h : i < l.length) : rd l (i : Int) = l[i] := by
  unfold rd
  rw [Int.toNat_natCast, List.getD_eq_getElem?_getD, List.getElem?_eq_getElem h]
  rfl
def cell (a b c : List Int) (i : Nat) : Int := Go.bits .xor .u8 (Go.bits .xor .u8 (rd a i) (rd b i)) (rd c i)
theorem cell_nat {a b c : List Int} (ha : ∀ x ∈ a, 0 ≤ x ∧ x < 256) (hb : ∀ x ∈ b, 0 ≤ x ∧ x < 256) (hc : ∀ x ∈ c, 0 ≤ x ∧ x < 256) {i : Nat} (h1 : i < a.length) (h2 : i < b.length) (h3 : i < c.length) :
    cell a b c i = ((a[i].toNat ^^^ b[i].toNat ^^^ c[i].toNat : Nat) : Int) ∧ a[i].toNat ^^^ b[i].toNat ^^^ c[i].toNat < 256 := by
  have e1 := ha _ (List.getElem_mem h1)
  have e2 := hb _ (List.getElem_mem h2)
  have e3 := hc _ (List.getElem_mem h3)
  have l1 : a[i].toNat ^^^ b[i].toNat < 256 := Nat.xor_lt_two_pow (n := 8) (by omega) (by omega)
  refine ⟨?_, Nat.xor_lt_two_pow (n := 8) l1 (by omega)⟩
  unfold cell
  rw [rd_get h1, rd_get h2, rd_get h3, u8_xor _ _ e1.1 e1.2 e2.1 e2.2, u8_xor _ _ (by omega) (by omega) e3.1 e3.2, Int.toNat_natCast]
theorem three (a b c M : Nat) : M ^^^ (a ^^^ b ^^^ c) = (M ^^^ a) ^^^ (M ^^^ b) ^^^ (M ^^^ c) := by
  rw [Crc.four M a M b, Nat.xor_self, Nat.zero_xor, Nat.xor_comm M c, ← Nat.xor_assoc (a ^^^ b), Nat.xor_comm M]

theorem linear (m : Nat) (l0 l1 l2 x : List Int) (h0 : m ≤ l0.length) (h1 : m ≤ l1.length) (h2 : m ≤ l2.length) (hx : x.length = m) (w0 : ∀ x ∈ l0, 0 ≤ x ∧ x < 256) (w1 : ∀ x ∈ l1, 0 ≤ x ∧ x < 256) (w2 : ∀ x ∈ l2, 0 ≤ x ∧ x < 256)
    (hc : ∀ i : Nat, i < m → rd x i = cell l0 l1 l2 i) : more 0 x = more 0 (l0.take m) ^^^ more 0 (l1.take m) ^^^ more 0 (l2.take m) := by
  have e : x.map Int.toNat = List.zipWith (· ^^^ ·) (List.zipWith (· ^^^ ·) ((l0.take m).map Int.toNat) ((l1.take m).map Int.toNat)) ((l2.take m).map Int.toNat) := by
    apply List.ext_getElem
    · simp [hx]; omega
    · intro i hi1 hi2
      have him : i < m := by simpa [hx] using hi1
      have := hc i him
      rw [rd_get (by omega), (cell_nat w0 w1 w2 (i := i) (by omega) (by omega) (by omega)).1] at this
      simp [this]
  unfold more
  rw [e]
  have k1 := Crc.crc_xor ((l0.take m).map Int.toNat) ((l1.take m).map Int.toNat) (4294967295 ^^^ 0) (4294967295 ^^^ 0) (by simp; omega)
  have k2 := Crc.crc_xor (List.zipWith (· ^^^ ·) ((l0.take m).map Int.toNat) ((l1.take m).map Int.toNat)) ((l2.take m).map Int.toNat) ((4294967295 ^^^ 0) ^^^ (4294967295 ^^^ 0)) (4294967295 ^^^ 0) (by simp; omega)
  rw [k1] at k2
  rw [← three, ← k2, Nat.xor_self, Nat.zero_xor]

theorem bytes_take {l : List Int} (m : Nat) (w : ∀ x ∈ l, 0 ≤ x ∧ x < 256) : ∀ x ∈ l.take m, 0 ≤ x ∧ x < 256 := fun x hx => w x (List.mem_of_mem_take hx)

theorem loop (l0 l1 l2 : List Int) (m : Nat) (h0 : m ≤ l0.length) (h1 : m ≤ l1.length) (h2 : m ≤ l2.length) (hm : m ≤ 100000) (w0 : ∀ x ∈ l0, 0 ≤ x ∧ x < 256) (w1 : ∀ x ∈ l1, 0 ≤ x ∧ x < 256) (w2 : ∀ x ∈ l2, 0 ≤ x ∧ x < 256) :
    ∀ (d k i : Nat) (x : List Int), m - i = d → i ≤ m → d < k → x.length = m → (∀ j : Nat, j < i → rd x j = cell l0 l1 l2 j) → (∀ y ∈ x, 0 ≤ y ∧ y < 256) →
      rotalaw01_SumLinear.l0 k l0 l1 l2 true (m : Int) x (i : Int) = some true := by
  intro d
  induction d with
  | zero =>
    intro k i x hd hi hk hx hc hw
    obtain ⟨k, rfl⟩ : ∃ n, k = n + 1 := ⟨k - 1, by omega⟩
    obtain rfl : i = m := by omega
    have hl := linear i l0 l1 l2 x h0 h1 h2 hx w0 w1 w2 hc
    have f1 : sum_Sum.f x = some ((more 0 x : Nat) : Int) := by unfold sum_Sum.f; rw [if_pos (isBytes_mk (by omega) hw)]
    have f2 : ∀ l : List Int, (∀ y ∈ l, 0 ≤ y ∧ y < 256) → sum_Sum.f (l.take i) = some ((more 0 (l.take i) : Nat) : Int) := fun l w => by
      unfold sum_Sum.f; rw [if_pos (isBytes_mk (by rw [List.length_take]; omega) (bytes_take i w))]
    have lt := fun (l : List Int) (w : ∀ y ∈ l, 0 ≤ y ∧ y < 256) => more_lt 0 (l.take i) (by decide) (bytes_take i w)
    simp only [rotalaw01_SumLinear.l0]
    rw [if_neg (by omega), if_pos trivial, f1, Option.bind_some, if_pos (by omega), if_pos (by omega), Int.toNat_natCast, f2 l0 w0, Option.bind_some, if_pos (by omega), f2 l1 w1, Option.bind_some, if_pos (by omega), f2 l2 w2, Option.bind_some]
    rw [u32_xor_nat _ _ (lt l0 w0) (lt l1 w1), u32_xor_nat _ _ (Nat.xor_lt_two_pow (n := 32) (lt l0 w0) (lt l1 w1)) (lt l2 w2), ← hl]
    simp
  | succ d ih =>
    intro k i x hd hi hk hx hc hw
    obtain ⟨k, rfl⟩ : ∃ n, k = n + 1 := ⟨k - 1, by omega⟩
    have hcell := cell_nat w0 w1 w2 (i := i) (by omega) (by omega) (by omega)
    simp only [rotalaw01_SumLinear.l0]
    rw [if_pos (by omega), if_pos (by omega), if_pos (by omega), if_pos (by omega), if_pos (by omega), if_pos (by omega)]
    rw [show wrap64 ((i : Int) + 1) = ((i + 1 : Nat) : Int) by unfold wrap64; omega, Int.toNat_natCast]
    refine ih k (i + 1) _ (by omega) (by omega) (by omega) (by rw [List.length_set]; exact hx) ?_ ?_
    · intro j hj
      by_cases e : j = i
      · subst e
        rw [rd_get (by rw [List.length_set]; omega), List.getElem_set_self]; rfl
      · rw [rd_get (by rw [List.length_set]; omega), List.getElem_set_ne (by omega), ← rd_get (by omega)]
        exact hc j (by omega)
    · intro y hy
      rcases List.mem_or_eq_of_mem_set hy with hy | hy
      · exact hw y hy
      · rw [hy]
        show 0 ≤ cell l0 l1 l2 i ∧ cell l0 l1 l2 i < 256
        rw [hcell.1]; omega

theorem SumLinear : rotalaw01_SumLinear.Pure := by
  intro l0 l1 l2 _ _ w0 _ _ w1 _ _ w2
  have w0 := bytes_wf w0
  have w1 := bytes_wf w1
  have w2 := bytes_wf w2
  obtain ⟨m, hm⟩ : ∃ m : Nat, mn (mn (l0.length : Int) (l1.length : Int)) (l2.length : Int) = (m : Int) := ⟨min (min l0.length l1.length) l2.length, by unfold mn; (repeat' split) <;> omega⟩
  have hb : m ≤ l0.length ∧ m ≤ l1.length ∧ m ≤ l2.length := by unfold mn at hm; (repeat' split at hm) <;> omega
  refine ⟨m + 2, ?_⟩
  unfold rotalaw01_SumLinear.f rotalaw01_alive.f
  rw [Option.bind_some, hm]
  by_cases hbig : (m : Int) > 100000
  · rw [if_pos hbig]; simp [rotalaw01_SumLinear.j0]
  · rw [if_neg hbig]
    simp only [rotalaw01_SumLinear.j0]
    rw [if_neg (by simp), if_pos (by omega), if_pos (by omega), Int.toNat_natCast]
    exact loop l0 l1 l2 m hb.1 hb.2.1 hb.2.2 (by omega) w0 w1 w2 m (m + 1) 0 _ (by omega) (by omega) (by omega) (by simp) (fun j hj => by omega) (fun y hy => by rw [List.eq_of_mem_replicate hy]; omega)

theorem sumLinear_walk (w : World) (A0 : Option Addr) (c0 : Nat) (l0 : List Int) (hr0 : Kd.C (Kd.int .u8) w A0 l0.length l0) (hc0 : l0.length ≤ c0) (y0 : l0.length * 1 ≤ 140737488351232) (hw0 : ∀ x ∈ l0, (Lit.int .u8 x).wf = true)
    (A1 : Option Addr) (c1 : Nat) (l1 : List Int) (hr1 : Kd.C (Kd.int .u8) w A1 l1.length l1) (hc1 : l1.length ≤ c1) (y1 : l1.length * 1 ≤ 140737488351232) (hw1 : ∀ x ∈ l1, (Lit.int .u8 x).wf = true)
    (A2 : Option Addr) (c2 : Nat) (l2 : List Int) (hr2 : Kd.C (Kd.int .u8) w A2 l2.length l2) (hc2 : l2.length ≤ c2) (y2 : l2.length * 1 ≤ 140737488351232) (hw2 : ∀ x ∈ l2, (Lit.int .u8 x).wf = true) (hN : NibsAt w) :
    Calls Tryd.prog 4 #[.slice A0 l0.length c0, .slice A1 l1.length c1, .slice A2 l2.length c2] w fun e w' => e = .returned (.bool true) ∧ Below w.heap.size w w' := by
  obtain ⟨k, h⟩ := SumLinear l0 l1 l2 (by unfold maxLen; omega) y0 hw0 (by unfold maxLen; omega) y1 hw1 (by unfold maxLen; omega) y2 hw2
  exact rotalaw01_SumLinear.calls k A0 c0 l0 A1 c1 l1 A2 c2 l2 true w hN hr0 hc0 hr1 hc1 hr2 hc2 h
end Go.Proofs.YtenbdejhakdihaaDoor.Pure
