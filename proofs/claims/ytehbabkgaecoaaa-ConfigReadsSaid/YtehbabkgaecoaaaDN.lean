/- config.Decode: the next number. -/
import Derived.Test.YtehbabkgaecoaaaPl
import Derived.Laws.BitsAllLaws
namespace Go.Proofs.Ytehbabkgaecoaaa
set_option linter.unusedVariables false
set_option linter.unusedSimpArgs false
open Go.RowKit Go.Shelf Go.Proofs.YtehbabkgaecoaaaW.PrintWords Go.Proofs.YtehbabkgaecoaaaW.PrintLast

/-- Four bytes as a number. -/
def be32 (l : List Int) : Int := l.getD 0 0 * 16777216 + l.getD 1 0 * 65536 + l.getD 2 0 * 256 + l.getD 3 0
def sg32 (n : Int) : Int := if n < 2147483648 then n else n - 4294967296
/-- The next number, what is left, and whether all was there. -/
def nextD (l : List Int) (b : Bool) : Int × List Int × Bool := if b && decide (4 ≤ l.length) then (sg32 (be32 l), l.drop 4, true) else (0, l, false)
theorem u32_in (n : Int) (h : 0 ≤ n) (h2 : n < 4294967296) : IntKind.u32.wrap n = n := by
  show n % 4294967296 = n
  exact Int.emod_eq_of_lt h h2
theorem or_u32 {a b : Int} (k : Nat) (h0 : 0 ≤ a) (h1 : a < 4294967296) (h2 : a % 2 ^ k = 0) (h3 : 0 ≤ b) (h4 : b < 2 ^ k) (h5 : b < 4294967296) : bits .or .u32 a b = a + b := by
  obtain ⟨x, rfl⟩ := Int.eq_ofNat_of_zero_le h0
  obtain ⟨y, rfl⟩ := Int.eq_ofNat_of_zero_le h3
  have hy : y < 2 ^ k := by exact_mod_cast h4
  have hx : x % 2 ^ k = 0 := by exact_mod_cast h2
  have e : 2 ^ k * (x / 2 ^ k) ||| y = 2 ^ k * (x / 2 ^ k) + y := (Nat.two_pow_add_eq_or_of_lt hy _).symm
  have ex : 2 ^ k * (x / 2 ^ k) = x := by have := Nat.div_add_mod x (2 ^ k); omega
  rw [ex] at e
  rw [u32_or_nat x y (by omega) (by omega), e]; rfl
def Byte (n : Int) : Prop := 0 ≤ n ∧ n ≤ 255
theorem at_U {w : World} {A : Option Addr} {l : List Int} (h : Kd.C kU w A l.length l) (k : Nat) (hk : k < l.length) : ∃ ad, A = some ad ∧ w.cell? (ad.add k) = some (.int .u8 (l.getD k 0)) := by
  obtain ⟨ad, c, e, _, hK, hc⟩ := Kd.C_get h 0 k (by omega) (by omega)
  have := hc 0 (.int .u8 (l.getD k 0)) (by rw [show c = [.int .u8 (l.getD (k : Int).toNat 0)] from hK]; simp)
  exact ⟨ad, e, by simpa [kU, Kd.int, Kd.scalar] using this⟩
set_option maxRecDepth 100000 in
set_option maxHeartbeats 16000000 in
theorem next_calls (F R : Nat) (b : Bool) (A : Option Addr) (c : Nat) (l : List Int) (w W : World) (hF : W.heap[F]? = some (Obj.cells #[.bool b] 4)) (hR : W.heap[R]? = some (Obj.cells #[.slice A l.length c] 22)) (hFR : F ≠ R) (hC : Kd.C kU w A l.length l) (hc : l.length ≤ c) (hB : Below w.heap.size w W) (hl : ∀ x ∈ l, Byte x) (hF0 : w.heap.size ≤ F) (hR0 : w.heap.size ≤ R) :
    Calls Try.prog 36 #[.pointer (some ⟨F, 0, none⟩), .pointer (some ⟨R, 0, none⟩)] W fun e W' => e = .returned (.int .i64 (nextD l b).1) ∧ ∃ A' c', W'.heap[F]? = some (Obj.cells #[.bool (nextD l b).2.2] 4) ∧ W'.heap[R]? = some (Obj.cells #[.slice A' (nextD l b).2.1.length c'] 22) ∧ Kd.C kU w A' (nextD l b).2.1.length (nextD l b).2.1 ∧ (nextD l b).2.1.length ≤ c' ∧ Keep2 W W' F R none ∧ Below w.heap.size w W' := by
  have f0 := blk_cell hF 0
  have ff0 := blk_frozen hF 0
  have r0 := blk_cell hR 0
  have rf0 := blk_frozen hR 0
  cases b
  case false =>
    have hn : nextD l false = (0, l, false) := rfl
    rw [hn]
    have HX := Lib.hid (show (W.setCell ⟨F, 0, none⟩ (.bool false)).heap[F]? = some (Obj.cells #[.bool false] 4) ∧ (W.setCell ⟨F, 0, none⟩ (.bool false)).heap[R]? = some (Obj.cells #[.slice A l.length c] 22) ∧ Keep2 W (W.setCell ⟨F, 0, none⟩ (.bool false)) F R none ∧ Below w.heap.size w (W.setCell ⟨F, 0, none⟩ (.bool false)) from ⟨blk_set hF 0 _, blk_far hR (p := ⟨F, 0, none⟩) (fun e => hFR e.symm) _, ⟨by rw [World.size_setCell]; exact Nat.le_refl _, fun i _ h1 _ _ => Below.heap_setCell W ⟨F, 0, none⟩ _ i h1⟩, hB.setCell (p := ⟨F, 0, none⟩) hF0 _⟩)
    have HC := Lib.hid hC
    have HL := Lib.hid hc
    clear hF hR hFR hC hc hB hl hF0 hR0 hn
    go_enter Try.func36, Try.ntmps36
    go_wp2_with fail
    go_ret
    exact ⟨rfl, A, c, HX.out.1, HX.out.2.1, HC.out, HL.out, HX.out.2.2.1, HX.out.2.2.2⟩
  by_cases h4 : 4 ≤ l.length
  case neg =>
    have hn : nextD l true = (0, l, false) := by unfold nextD; rw [decide_eq_false h4]; rfl
    rw [hn]
    have e4 : decide (4 ≤ (l.length : Int)) = false := decide_eq_false (by omega)
    have HX := Lib.hid (show (W.setCell ⟨F, 0, none⟩ (.bool false)).heap[F]? = some (Obj.cells #[.bool false] 4) ∧ (W.setCell ⟨F, 0, none⟩ (.bool false)).heap[R]? = some (Obj.cells #[.slice A l.length c] 22) ∧ Keep2 W (W.setCell ⟨F, 0, none⟩ (.bool false)) F R none ∧ Below w.heap.size w (W.setCell ⟨F, 0, none⟩ (.bool false)) from ⟨blk_set hF 0 _, blk_far hR (p := ⟨F, 0, none⟩) (fun e => hFR e.symm) _, ⟨by rw [World.size_setCell]; exact Nat.le_refl _, fun i _ h1 _ _ => Below.heap_setCell W ⟨F, 0, none⟩ _ i h1⟩, hB.setCell (p := ⟨F, 0, none⟩) hF0 _⟩)
    have HC := Lib.hid hC
    have HL := Lib.hid hc
    clear hF hR hFR hC hc hB hl hF0 hR0 hn h4
    go_enter Try.func36, Try.ntmps36
    go_wp2_with fail
    go_ret
    exact ⟨rfl, A, c, HX.out.1, HX.out.2.1, HC.out, HL.out, HX.out.2.2.1, HX.out.2.2.2⟩
  have hn : nextD l true = (sg32 (be32 l), l.drop 4, true) := by unfold nextD; rw [decide_eq_true h4]; rfl
  rw [hn]
  have e4 : decide (4 ≤ (l.length : Int)) = true := decide_eq_true (by omega)
  have HWF := Lib.hid (blk_set hF 0 (.bool true))
  have hRF := blk_far hR (p := ⟨F, 0, none⟩) (fun e => hFR e.symm) (.bool true)
  have r1 := blk_cell hRF 0
  have rf1 := blk_frozen hRF 0
  have hBF := hB.setCell (p := ⟨F, 0, none⟩) hF0 (.bool true)
  obtain ⟨ad, rfl, u0⟩ := at_U (Kd.C_below hC hBF) 0 (by omega)
  obtain ⟨_, e1, u1⟩ := at_U (Kd.C_below hC hBF) 1 (by omega)
  cases e1
  obtain ⟨_, e1, u2⟩ := at_U (Kd.C_below hC hBF) 2 (by omega)
  cases e1
  obtain ⟨_, e1, u3⟩ := at_U (Kd.C_below hC hBF) 3 (by omega)
  cases e1
  have hby : ∀ k, k < 4 → Byte (l.getD k 0) := fun k hk => hl _ (by rw [List.getD_eq_getElem?_getD, List.getElem?_eq_getElem (by omega)]; exact List.getElem_mem _)
  obtain ⟨y0, z0⟩ := hby 0 (by omega)
  obtain ⟨y1, z1⟩ := hby 1 (by omega)
  obtain ⟨y2, z2⟩ := hby 2 (by omega)
  obtain ⟨y3, z3⟩ := hby 3 (by omega)
  obtain ⟨x0, hx0⟩ : ∃ x, x = l.getD 0 0 := ⟨_, rfl⟩
  obtain ⟨x1, hx1⟩ : ∃ x, x = l.getD 1 0 := ⟨_, rfl⟩
  obtain ⟨x2, hx2⟩ : ∃ x, x = l.getD 2 0 := ⟨_, rfl⟩
  obtain ⟨x3, hx3⟩ : ∃ x, x = l.getD 3 0 := ⟨_, rfl⟩
  rw [← hx0] at u0 y0 z0
  rw [← hx1] at u1 y1 z1
  rw [← hx2] at u2 y2 z2
  rw [← hx3] at u3 y3 z3
  have HBE := Lib.hid (show be32 l = x0 * 16777216 + x1 * 65536 + x2 * 256 + x3 by unfold be32; rw [hx0, hx1, hx2, hx3])
  replace u0 : (W.setCell ⟨F, 0, none⟩ (.bool true)).cell? ad = some (.int .u8 x0) := by
    have e0 : ad.add 0 = ad := by cases ad; simp [Addr.add]
    rw [← e0]; exact u0
  have w0 : IntKind.u32.wrap x0 = x0 := u32_in x0 y0 (by omega)
  have w1 : IntKind.u32.wrap x1 = x1 := u32_in x1 y1 (by omega)
  have w2 : IntKind.u32.wrap x2 = x2 := u32_in x2 y2 (by omega)
  have w3 : IntKind.u32.wrap x3 = x3 := u32_in x3 y3 (by omega)
  have s0 : IntKind.u32.wrap (x0 * 16777216) = x0 * 16777216 := u32_in _ (by omega) (by omega)
  have s1 : IntKind.u32.wrap (x1 * 65536) = x1 * 65536 := u32_in _ (by omega) (by omega)
  have s2 : IntKind.u32.wrap (x2 * 256) = x2 * 256 := u32_in _ (by omega) (by omega)
  have o1 : bits .or .u32 (x0 * 16777216) (x1 * 65536) = x0 * 16777216 + x1 * 65536 := or_u32 24 (by omega) (by omega) (by omega) (by omega) (by omega) (by omega)
  have o2 : bits .or .u32 (x0 * 16777216 + x1 * 65536) (x2 * 256) = x0 * 16777216 + x1 * 65536 + x2 * 256 := or_u32 16 (by omega) (by omega) (by omega) (by omega) (by omega) (by omega)
  have o3 : bits .or .u32 (x0 * 16777216 + x1 * 65536 + x2 * 256) x3 = x0 * 16777216 + x1 * 65536 + x2 * 256 + x3 := or_u32 8 (by omega) (by omega) (by omega) (by omega) (by omega) (by omega)
  have HFIN := Lib.hid (show ∀ (A' : Option Addr) (n : Nat), Kd.C kU w A' (l.length - 4) (l.drop 4) → (((W.setCell ⟨F, 0, none⟩ (.bool true)).drewN n).setCell ⟨R, 0, none⟩ (.slice A' (l.length - 4) (c - 4))).heap[F]? = some (Obj.cells #[.bool true] 4) ∧ (((W.setCell ⟨F, 0, none⟩ (.bool true)).drewN n).setCell ⟨R, 0, none⟩ (.slice A' (l.length - 4) (c - 4))).heap[R]? = some (Obj.cells #[.slice A' (l.length - 4) (c - 4)] 22) ∧ Keep2 W (((W.setCell ⟨F, 0, none⟩ (.bool true)).drewN n).setCell ⟨R, 0, none⟩ (.slice A' (l.length - 4) (c - 4))) F R none ∧ Below w.heap.size w (((W.setCell ⟨F, 0, none⟩ (.bool true)).drewN n).setCell ⟨R, 0, none⟩ (.slice A' (l.length - 4) (c - 4))) from fun A' n hA => by
    have hd : Below (W.setCell ⟨F, 0, none⟩ (.bool true)).heap.size (W.setCell ⟨F, 0, none⟩ (.bool true)) ((W.setCell ⟨F, 0, none⟩ (.bool true)).drewN n) := pw_below_drewN (Below.refl _ _) n
    have e1 := blk_keep hd HWF.out
    have e2 := blk_keep hd hRF
    refine ⟨blk_far e1 (p := ⟨R, 0, none⟩) hFR _, blk_set e2 0 _, ⟨?_, fun i hi h1 h2 _ => ?_⟩, (below_step hBF hd).setCell (p := ⟨R, 0, none⟩) hR0 _⟩
    · rw [World.size_setCell]; exact Nat.le_trans (by rw [World.size_setCell]; exact Nat.le_refl _) hd.size
    · rw [Below.heap_setCell _ ⟨R, 0, none⟩ _ i h2, hd.block i (by rw [World.size_setCell]; exact hi), Below.heap_setCell W ⟨F, 0, none⟩ _ i h1])
  have HCL := Lib.hid hC
  have HCC := Lib.hid hc
  have HH4 := Lib.hid h4
  clear hx0 hx1 hx2 hx3 hby hn
  have i0 : 0 < l.length := by omega
  have i1 : (1 : Int) < (l.length : Int) := by omega
  replace u1 : (W.setCell ⟨F, 0, none⟩ (.bool true)).cell? { block := ad.block, off := ad.off + 1 } = some (.int .u8 x1) := u1
  have i2 : (2 : Int) < (l.length : Int) := by omega
  replace u2 : (W.setCell ⟨F, 0, none⟩ (.bool true)).cell? { block := ad.block, off := ad.off + 2 } = some (.int .u8 x2) := u2
  have i3 : (3 : Int) < (l.length : Int) := by omega
  replace u3 : (W.setCell ⟨F, 0, none⟩ (.bool true)).cell? { block := ad.block, off := ad.off + 3 } = some (.int .u8 x3) := u3
  go_enter Try.func36, Try.ntmps36
  go_wp2_with fail
  go_quiet (fail)
  have HN := Lib.hid (show 0 ≤ x0 * 16777216 + x1 * 65536 + x2 * 256 + x3 ∧ x0 * 16777216 + x1 * 65536 + x2 * 256 + x3 < 4294967296 by omega)
  generalize x0 * 16777216 + x1 * 65536 + x2 * 256 + x3 = N at *
  have HSG := Lib.hid (show wrap64 (wrap32 N) = sg32 (be32 l) by
    rw [HBE.out]
    have hn0 : 0 ≤ N := HN.out.1
    have hn1 : N < 4294967296 := HN.out.2
    simp only [wrap64, wrap32, sg32]
    split <;> omega)
  by_cases h5 : c = 4
  · go_wp2_with fail
    go_ret
    have hd := Kd.C_drop HCL.out HH4.out HCC.out
    rw [if_pos h5] at hd
    rw [List.length_drop] at hd
    have HX := HFIN.out _ nq hd
    rw [show c - 4 = 0 by omega] at HX
    refine ⟨?_, some ad, 0, HX.1, ?_, ?_, ?_, HX.2.2⟩
    · show Ending.returned (.int .i64 (wrap64 (wrap32 N))) = _
      rw [HSG.out]
    · rw [List.length_drop]; exact HX.2.1
    · rw [List.length_drop]; exact hd
    · rw [List.length_drop]; have := HCC.out; omega
  go_wp2_with fail
  go_ret
  have hd := Kd.C_drop HCL.out HH4.out HCC.out
  rw [if_neg h5] at hd
  rw [List.length_drop] at hd
  replace hd : Kd.C kU w (some { block := ad.block, off := ad.off + 4 }) (l.length - 4) (l.drop 4) := hd
  have HX := HFIN.out _ nq hd
  refine ⟨?_, some { block := ad.block, off := ad.off + 4 }, c - 4, HX.1, ?_, ?_, ?_, HX.2.2⟩
  · show Ending.returned (.int .i64 (wrap64 (wrap32 N))) = _
    rw [HSG.out]
  · rw [List.length_drop]; exact HX.2.1
  · rw [List.length_drop]; exact hd
  · rw [List.length_drop]; have := HCC.out; omega
end Go.Proofs.Ytehbabkgaecoaaa
