/- The walks of the check sum: what More and Sum answer. -/
import Derived.Test.YtenbdejhakdihaaDoorProg
import Derived.Below
import Derived.Deep.Draws
import Derived.Deep.AppendLies
import Derived.Maps.AppendAt
import Derived.OwnWalk
import Derived.Laws.BytesArg
import Derived.Laws.MakeOwn
import Derived.Laws.OwnMore
import Derived.Deep.OwnRows
import Derived.Tactics
import Derived.Lib.ConvBytes
import Derived.Laws.Slices
import Derived.WalkKit
import Derived.KernelRfl
import Derived.RowKit3
import Derived.Deep.LoopGhost
import Derived.Deep.QuietTactic
import Derived.BigQuiet
import Derived.WideLaws
import Derived.Deep.DeepCutAuto
import Derived.Deep.CutBlock
import Derived.Deep.RegionHeld3
import Derived.Laws.Rows
import Derived.Lib.AppendStr
import Derived.ArgAppend
import Derived.Laws.IdiomCopy
import Derived.OrdersHeld
import Derived.Laws.BitsLemmas
import Derived.RowKit
import Derived.Test.YtenbdejhakdihaaDoorWWords
import Derived.Test.YtenbdejhakdihaaDoorWLast
import Derived.Test.YtenbdejhakdihaaDoorCrc
import Derived.Lib.Hide
import Derived.Lib.SlBytesConst
import Derived.Laws.BitsAllLaws
namespace Go.Proofs.YtenbdejhakdihaaDoor
open Go.RowKit Go.Proofs.YtenbdejhakdihaaDoorW.PrintWords Go.Proofs.YtenbdejhakdihaaDoorW.PrintLast


/-- The table of nibbles lies where the program's text lays it. -/
def NibsAt (w : World) : Prop := ∀ i : Nat, i < 16 → w.cell? ⟨0, i, none⟩ = some (.int .u32 (Crc.nibs.getD i 0 : Nat))
theorem nibs_cell : ∀ i : Nat, i < 16 → (Crc.nibs.map Int.ofNat).getD i 0 = ((Crc.nibs.getD i 0 : Nat) : Int) := by decide
theorem umax : IntKind.u32.max = 4294967295 := rfl
theorem usigned : IntKind.u32.signed = false := rfl

theorem nib_facts {w : World} (hN : NibsAt w) (n : Nat) (hn : n < 4294967296) : ∃ i t m : Nat, i < 16 ∧ bits .and .u32 (n : Int) 15 = (i : Int) ∧ w.cell? ⟨0, i, none⟩ = some (.int .u32 (t : Int)) ∧
    bits .xor .u32 ((n : Int) / 16) (t : Int) = (m : Int) ∧ m = Crc.stepN 4 n ∧ m < 4294967296 := by
  have ht : Crc.nibs.getD (n % 16) 0 < 4294967296 := by
    rw [Crc.nibs_eq _ (Nat.mod_lt _ (by decide))]
    exact Crc.stepN_lt 4 _ (by omega)
  refine ⟨n % 16, Crc.nibs.getD (n % 16) 0, Crc.nib n, by omega, ?_, hN _ (by omega), ?_, Crc.nib_eq n, ?_⟩
  · have := u32_and_nat n 15 hn (by decide)
    rw [nat_mask4] at this
    simpa using this
  · have := u32_xor_nat (n / 16) (Crc.nibs.getD (n % 16) 0) (by omega) ht
    rw [show ((n / 16 : Nat) : Int) = (n : Int) / 16 from by omega] at this
    exact this
  · rw [Crc.nib_eq]; exact Crc.stepN_lt 4 _ hn
theorem byte_facts (n : Nat) (hn : n < 4294967296) (c : Nat) (hc : c < 256) : ∃ m : Nat, bits .xor .u32 (n : Int) (c : Int) = (m : Int) ∧ m = n ^^^ c ∧ m < 4294967296 :=
  ⟨n ^^^ c, u32_xor_nat n c hn (by omega), rfl, Nat.xor_lt_two_pow (n := 32) hn (by omega)⟩
theorem not_facts (n : Nat) (hn : n < 4294967296) : ∃ m : Nat, bits .xor .u32 4294967295 (n : Int) = (m : Int) ∧ m = 4294967295 ^^^ n ∧ m < 4294967296 :=
  ⟨4294967295 ^^^ n, u32_xor_nat 4294967295 n (by decide) hn, rfl, Nat.xor_lt_two_pow (n := 32) (by decide) hn⟩

/-- What More answers. -/
def more (s : Nat) (l : List Int) : Nat := 4294967295 ^^^ Crc.crc (4294967295 ^^^ s) (l.map Int.toNat)
theorem crc_snoc (n : Nat) (l : List Int) (x : Int) (h0 : 0 ≤ x) (hx : x < (l.length : Int)) (c : Nat) (hc : rd l x = (c : Int)) :
    Crc.crc n ((l.take (x + 1).toNat).map Int.toNat) = Crc.stepN 8 (Crc.crc n ((l.take x.toNat).map Int.toNat) ^^^ c) := by
  have hlt : x.toNat < l.length := by omega
  rw [show (x + 1).toNat = x.toNat + 1 from by omega, List.take_succ_eq_append_getElem hlt, List.map_append, Crc.crc_append]
  have : l[x.toNat].toNat = c := by
    unfold rd at hc
    rw [List.getD_eq_getElem?_getD, List.getElem?_eq_getElem hlt] at hc
    simp at hc; omega
  simp [Crc.crc, Crc.byte, this]

set_option maxHeartbeats 400000 in
theorem more_calls (s : Nat) (w : World) (A0 : Option Addr) (c0 : Nat) (l0 : List Int) (hr0 : Kd.C (Kd.int .u8) w A0 l0.length l0) (hs : s < 4294967296) (_hc0 : l0.length ≤ c0) (hlen : l0.length ≤ 140737488355328) (hN : NibsAt w)
    (hw : ∀ x ∈ l0, 0 ≤ x ∧ x < 256) :
    Calls Tryd.prog 12 #[.int .u32 s, .slice A0 l0.length c0] w fun e w' => e = .returned (.int .u32 (more s l0)) ∧ w = w' := by
  have hmx := umax
  have hsg := usigned
  have HR := Lib.hid hr0
  have HW := Lib.hid hw
  have HN := Lib.hid hN
  obtain ⟨m0, em0, hm0, hm0'⟩ := not_facts s hs
  have HM0 := Lib.hid hm0
  clear hr0 hw hN hm0
  go_enter Tryd.func12, Tryd.ntmps12
  go_wp2
  go_loop [5, 7, 12] (fun a _ i => ∃ (n : Nat) (x : Int), a = .int .u32 n ∧ n < 4294967296 ∧ i = .int .i64 x ∧ 0 ≤ x ∧ x ≤ (l0.length : Int) ∧ Hid (n = Crc.crc m0 ((l0.take x.toNat).map Int.toNat))) (fun _ _ i => l0.length - (intOf i).toNat)
  case atStart => exact ⟨m0, 0, rfl, hm0', rfl, by omega, by omega, Lib.hid (by simp [Crc.crc])⟩
  case round =>
    obtain ⟨n, x, rfl, hn, rfl, hx0, hx1, HC⟩ := hrel
    by_cases hx : x < (l0.length : Int)
    · obtain ⟨ad118, e118, hx118_0⟩ := Kd.at_int HR.out x (by omega) (by omega)
      cases e118
      obtain ⟨c, hc, hcb⟩ : ∃ c : Nat, rd l0 x = (c : Int) ∧ c < 256 := by
        have := HW.out (rd l0 x) (by
          unfold rd
          rw [List.getD_eq_getElem?_getD, List.getElem?_eq_getElem (by omega)]
          simp)
        exact ⟨(rd l0 x).toNat, by omega, by omega⟩
      rw [hc] at hx118_0
      have HCC := Lib.hid hc
      clear hc
      obtain ⟨n1, e1, h1, hb1⟩ := byte_facts n hn c hcb
      obtain ⟨i2, t2, n2, hi2, e2, hc2, e2', h2, hb2⟩ := nib_facts HN.out n1 hb1
      obtain ⟨i3, t3, n3, hi3, e3, hc3, e3', h3, hb3⟩ := nib_facts HN.out n2 hb2
      have HN3 : Hid (n3 = Crc.crc m0 ((l0.take (x + 1).toNat).map Int.toNat)) := Lib.hid (by
        rw [crc_snoc m0 l0 x hx0 hx c HCC.out, ← HC.out, h3, h2, h1]; exact (Crc.stepN_add 4 4 _).symm)
      clear h1 h2 h3
      go_wp2
      go_round
      case measure => simp [intOf]; omega
      case rel => exact ⟨n3, x + 1, rfl, hb3, rfl, by omega, by omega, HN3⟩
    · obtain ⟨m1, em1, hm1, hm1'⟩ := not_facts n hn
      have HM1 := Lib.hid hm1
      clear hm1
      have hfin : Hid (m1 = more s l0) := Lib.hid (by
        rw [HM1.out, HC.out, HM0.out, show x.toNat = l0.length from by omega, List.take_length]; rfl)
      go_wp2
      go_ret
      exact ⟨by rw [← hfin.out]; rfl, rfl⟩

theorem NibsAt.below {w w1 : World} (h : NibsAt w) (hb : Below w.heap.size w w1) : NibsAt w1 := fun i hi =>
  (hb.cell (p := ⟨0, i, none⟩) (World.block_lt_of_cell? w _ (h i hi))).trans (h i hi)

set_option maxHeartbeats 400000 in
theorem sum_calls (w : World) (A0 : Option Addr) (c0 : Nat) (l0 : List Int) (hr0 : Kd.C (Kd.int .u8) w A0 l0.length l0) (hc0 : l0.length ≤ c0) (hlen : l0.length ≤ 140737488355328) (hN : NibsAt w)
    (hw : ∀ x ∈ l0, 0 ≤ x ∧ x < 256) :
    Calls Tryd.prog 13 #[.slice A0 l0.length c0] w fun e w' => e = .returned (.int .u32 (more 0 l0)) ∧ w = w' := by
  have h := more_calls 0 w A0 c0 l0 hr0 (by decide) hc0 hlen hN hw
  have H := Lib.hid h
  clear h hr0 hc0 hlen hN hw
  go_enter Tryd.func13, Tryd.ntmps13
  go_wp2_with fail
  refine H.out.mono ?_
  rintro e w' ⟨rfl, rfl⟩
  go_wp2
  go_ret
  exact ⟨rfl, rfl⟩

/-- A block of numbers just made reads as them. -/
theorem C_new (k : IntKind) (w : World) (l : List Int) (t : TypeId) (fr : Nat × Nat) (hl : l.length ≤ 9223372036854775807) : Kd.C (Kd.int k) (w.alloc (.cells (l.map (Value.int k)).toArray t fr)) (some ⟨w.heap.size, 0, none⟩) l.length l := by
  refine ⟨rfl, hl, fun _ => ⟨_, rfl, fun j p hp => ⟨[.int k p], rfl, rfl, fun i u hu => ?_⟩⟩⟩
  cases i with
  | succ i => simp at hu
  | zero =>
    obtain rfl : Value.int k p = u := by simpa using hu
    have := cell_of_row (w.alloc (.cells (l.map (Value.int k)).toArray t fr)) w.heap.size j (l.map (Value.int k)).toArray t fr (heap_alloc_new w _)
    rw [List.getElem?_toArray, List.getElem?_map, hp] at this
    have e : Addr.add ⟨w.heap.size, 0, none⟩ (j * (Kd.int k).sz + 0) = ⟨w.heap.size, j, none⟩ := by
      simp only [Addr.add, Kd.int, Kd.scalar]
      by_cases hj : j = 0
      · simp [hj]
      · simp [hj]
    rw [e]
    exact this

theorem sum_nil (w : World) (hN : NibsAt w) : Calls Tryd.prog 13 #[.slice none 0 0] w fun e w' => e = .returned (.int .u32 0) ∧ w = w' :=
  (sum_calls w none 0 [] (Kd.C_nil _ _) (by simp) (by simp) hN (by simp)).mono fun _ _ h => h
theorem sum_new (w : World) (l : List Int) (n : Nat) (hl : l.length ≤ 140737488355328) (hw : ∀ x ∈ l, 0 ≤ x ∧ x < 256) (hn : more 0 l = n) (hN : NibsAt w) (cs : Array Value) (hcs : cs = (l.map (Value.int .u8)).toArray) (k : Nat) (hk : k = l.length) (fr : Nat × Nat) :
    Calls Tryd.prog 13 #[.slice (some ⟨w.heap.size, 0, none⟩) k k] (w.alloc (.cells cs 5 fr)) fun e w' => e = .returned (.int .u32 (n : Int)) ∧ w.alloc (.cells cs 5 fr) = w' := by
  subst hcs hk hn
  exact sum_calls _ _ _ _ (C_new .u8 w l 5 fr (by omega)) (Nat.le_refl _) hl (hN.below ((Below.refl _ _).alloc (Nat.le_refl _) _)) hw

set_option maxHeartbeats 400000 in
theorem alive_calls (w : World) (hN : NibsAt w) : Calls Tryd.prog 11 #[] w fun e w' => e = .returned (.bool true) ∧ Below w.heap.size w w' := by
  have h1 := sum_nil w hN
  have h2 := sum_new w [97] 3904355907 (by simp) (by simp) (by decide +kernel) hN #[.int .u8 97] rfl 1 rfl (1, 2)
  have h3 := sum_new (w.alloc (.cells #[.int .u8 97] 5 (1, 2))) [49, 50, 51, 52, 53, 54, 55, 56, 57] 3421780262 (by simp) (by simp) (by decide +kernel) (hN.below ((Below.refl _ _).alloc (Nat.le_refl _) _)) #[.int .u8 49, .int .u8 50, .int .u8 51, .int .u8 52, .int .u8 53, .int .u8 54, .int .u8 55, .int .u8 56, .int .u8 57] rfl 9 rfl (9, 10)
  rw [World.size_alloc] at h3
  have H1 := Lib.hid h1
  have H2 := Lib.hid h2
  have H3 := Lib.hid h3
  clear hN h1 h2 h3
  have kc2 := fun (C : Array Value) (n c : Nat) => Lib.run_convert_bytes_const (P := Tryd.prog) (w.alloc (.cells #[.int .u8 97] 5 (1, 2))) 22 5 C n c Tryd.underlying22 Tryd.underlying5
  simp only [World.size_alloc] at kc2
  have kc := fun (w : World) (C : Array Value) (n c : Nat) => Lib.run_convert_bytes_const (P := Tryd.prog) w 22 5 C n c Tryd.underlying22 Tryd.underlying5
  go_enter Tryd.func11, Tryd.ntmps11
  go_wp2_with fail
  refine H1.out.mono ?_
  rintro e w' ⟨rfl, rfl⟩
  go_wp2_with fail
  refine H2.out.mono ?_
  rintro e w' ⟨rfl, rfl⟩
  go_wp2_with fail
  refine H3.out.mono ?_
  rintro e w' ⟨rfl, rfl⟩
  go_wp2
  go_ret
  exact ⟨rfl, ((Below.refl _ _).alloc (Nat.le_refl _) _).alloc (by simp) _⟩
end Go.Proofs.YtenbdejhakdihaaDoor
