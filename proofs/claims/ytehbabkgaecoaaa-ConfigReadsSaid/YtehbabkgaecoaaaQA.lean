/- rotaref02's reader: the next number. -/
import Derived.Test.YtehbabkgaecoaaaDRp
namespace Go.Proofs.Ytehbabkgaecoaaa
set_option linter.unusedVariables false
set_option linter.unusedSimpArgs false
open Go.RowKit Go.Shelf Go.Proofs.YtehbabkgaecoaaaW.PrintWords Go.Proofs.YtehbabkgaecoaaaW.PrintLast

/-- The reader's box: the bytes, how far it is (r is what is left), whether all was there. -/
structure QSt (w : World) (X : Nat) (A : Option Addr) (c : Nat) (b r : List Int) (f : Bool) (W : World) : Prop where
  box : W.heap[X]? = some (Obj.cells #[.slice A b.length c, .int .i64 ((b.length - r.length : Nat) : Int), .bool f] 66 (0, 0))
  suf : r <:+ b
  row : Kd.C kU w A b.length b
  byt : ∀ x ∈ b, Byte x
  bel : Below w.heap.size w W
  hX : w.heap.size ≤ X
  len : b.length ≤ 1000000000
/-- One block aside all is as it was. -/
def KpX (X : Nat) (W W' : World) : Prop := W.heap.size ≤ W'.heap.size ∧ ∀ i, i < W.heap.size → i ≠ X → W'.heap[i]? = W.heap[i]?
theorem KpX.refl (X : Nat) (W : World) : KpX X W W := ⟨Nat.le_refl _, fun _ _ _ => rfl⟩
theorem KpX.trans {X : Nat} {W V U : World} (h : KpX X W V) (k : KpX X V U) : KpX X W U := ⟨Nat.le_trans h.1 k.1, fun i hi hx => (k.2 i (Nat.lt_of_lt_of_le hi h.1) hx).trans (h.2 i hi hx)⟩
theorem KpX.below {X : Nat} {W V : World} (h : Below W.heap.size W V) : KpX X W V := ⟨h.size, fun i hi _ => h.block i hi⟩
theorem KpX.set {X : Nat} {W V : World} (h : KpX X W V) (j : Nat) (u : Value) : KpX X W (V.setCell ⟨X, j, none⟩ u) :=
  ⟨by rw [World.size_setCell]; exact h.1, fun i hi hx => by rw [Below.heap_setCell V ⟨X, j, none⟩ u i hx]; exact h.2 i hi hx⟩
theorem KpX.blk {X : Nat} {W V : World} (h : KpX X W V) {g : Nat} {o : Obj} (hb : W.heap[g]? = some o) (hg : g ≠ X) : V.heap[g]? = some o := (h.2 g (blk_lt hb) hg).trans hb
section
variable {w W V : World} {X : Nat} {A : Option Addr} {c : Nat} {b r : List Int} {f : Bool}
theorem QSt.below (h : QSt w X A c b r f W) (hb : Below W.heap.size W V) : QSt w X A c b r f V := ⟨blk_keep hb h.box, h.suf, h.row, h.byt, h.bel.trans (hb.mono h.bel.size), h.hX, h.len⟩
theorem QSt.far (h : QSt w X A c b r f W) {p : Addr} (hp : p.block ≠ X) (hw : w.heap.size ≤ p.block) (v : Value) : QSt w X A c b r f (W.setCell p v) := ⟨blk_far h.box (p := p) (fun e => hp e.symm) v, h.suf, h.row, h.byt, h.bel.setCell hw v, h.hX, h.len⟩
end
/-- The first k bytes as a number. -/
def nkR (r : List Int) : Nat → Int
  | 0 => 0
  | k + 1 => 256 * nkR r k + r.getD k 0
theorem nkR_bd (r : List Int) (hb : ∀ x ∈ r, Byte x) : ∀ k : Nat, k ≤ 4 → k ≤ r.length → 0 ≤ nkR r k ∧ nkR r k < 4294967296 := by
  have hg : ∀ j, j < r.length → 0 ≤ r.getD j 0 ∧ r.getD j 0 ≤ 255 := fun j hj => hb _ (by rw [List.getD_eq_getElem?_getD, List.getElem?_eq_getElem hj]; exact List.getElem_mem _)
  intro k hk hl
  have h0 := hg 0
  have h1 := hg 1
  have h2 := hg 2
  have h3 := hg 3
  obtain rfl | rfl | rfl | rfl | rfl : k = 0 ∨ k = 1 ∨ k = 2 ∨ k = 3 ∨ k = 4 := by omega
  all_goals (simp only [nkR]; omega)
theorem nkR_be (r : List Int) : nkR r 4 = be32 r := by
  simp only [nkR, be32]; omega
set_option maxRecDepth 100000 in
set_option maxHeartbeats 16000000 in
theorem rnum_calls {w W : World} {X : Nat} {A : Option Addr} {c : Nat} {b r : List Int} {f : Bool} (h : QSt w X A c b r f W) :
    Calls Try.prog 33 #[.pointer (some ⟨X, 0, none⟩)] W fun e W' => e = .returned (.int .i64 (nextD r f).1) ∧ QSt w X A c b (nextD r f).2.1 (nextD r f).2.2 W' ∧ KpX X W W' := by
  have hbl : b.length ≤ 1000000000 := h.len
  have hsl : r.length ≤ b.length := h.suf.length_le
  have HSL := Lib.hid hsl
  have hrd : r = b.drop (b.length - r.length) := by
    obtain ⟨t, rfl⟩ := h.suf
    rw [List.length_append, Nat.add_sub_cancel, List.drop_left]
  have H := Lib.hid h
  have x0 := blk_cell h.box 0
  have x1 := blk_cell h.box 1
  have x2 := blk_cell h.box 2
  have xf2 := blk_frozen h.box 2
  have xf1 := blk_frozen h.box 1
  obtain ⟨a, ha⟩ : ∃ a, a = b.length - r.length := ⟨_, rfl⟩
  rw [← ha] at x1
  have HA := Lib.hid ha
  cases f
  case false =>
    have hn : nextD r false = (0, r, false) := next_false r
    rw [hn]
    have HX := Lib.hid (show ∀ n, QSt w X A c b r false ((W.drewN n).setCell ⟨X, 2, none⟩ (.bool false)) ∧ KpX X W ((W.drewN n).setCell ⟨X, 2, none⟩ (.bool false)) from fun n => by
      have hd : Below W.heap.size W (W.drewN n) := pw_below_drewN (Below.refl _ _) n
      have h1 := h.below hd
      exact ⟨⟨by have := blk_set h1.box 2 (.bool false); exact this, h1.suf, h1.row, h1.byt, h1.bel.setCell (p := ⟨X, 2, none⟩) h1.hX _, h1.hX, h1.len⟩, (KpX.below hd).set 2 _⟩)
    clear h hn ha hrd
    go_enter Try.func33, Try.ntmps33
    go_wp2_with fail
    go_quiet (fail)
    go_wp2_with fail
    go_ret
    exact ⟨rfl, (HX.out nq).1, (HX.out nq).2⟩
  by_cases h4 : 4 ≤ r.length
  case neg =>
    have hn : nextD r true = (0, r, false) := by unfold nextD; rw [if_neg]; simpa using h4
    rw [hn]
    have e4 : decide ((a : Int) + 4 > (b.length : Int)) = true := decide_eq_true (by omega)
    have ew : wrap64 ((a : Int) + 4) = (a : Int) + 4 := IntWalk.wrap64_in _ ⟨by omega, by omega⟩
    have HX := Lib.hid (show ∀ n, QSt w X A c b r false ((W.drewN n).setCell ⟨X, 2, none⟩ (.bool false)) ∧ KpX X W ((W.drewN n).setCell ⟨X, 2, none⟩ (.bool false)) from fun n => by
      have hd : Below W.heap.size W (W.drewN n) := pw_below_drewN (Below.refl _ _) n
      have h1 := h.below hd
      exact ⟨⟨by have := blk_set h1.box 2 (.bool false); exact this, h1.suf, h1.row, h1.byt, h1.bel.setCell (p := ⟨X, 2, none⟩) h1.hX _, h1.hX, h1.len⟩, (KpX.below hd).set 2 _⟩)
    clear h hn ha hrd h4 hsl
    go_enter Try.func33, Try.ntmps33
    go_wp2_with fail
    go_quiet (fail)
    go_wp2_with fail
    go_ret
    exact ⟨rfl, (HX.out nq).1, (HX.out nq).2⟩
  have hn : nextD r true = (sg32 (be32 r), r.drop 4, true) := by unfold nextD; rw [if_pos]; simpa using h4
  rw [hn]
  have hby : ∀ x ∈ r, Byte x := fun x hx => h.byt x (h.suf.subset hx)
  have HBD := Lib.hid (nkR_bd r hby)
  have HGE := Lib.hid (show ∀ k, r.getD k 0 = b.getD (a + k) 0 from fun k => by
    rw [ha, List.getD_eq_getElem?_getD, List.getD_eq_getElem?_getD]
    conv => lhs; rw [hrd]
    rw [List.getElem?_drop])
  have e4 : decide ((a : Int) + 4 > (b.length : Int)) = false := decide_eq_false (by omega)
  have ew : wrap64 ((a : Int) + 4) = (a : Int) + 4 := IntWalk.wrap64_in _ ⟨by omega, by omega⟩
  have HAL := Lib.hid (show a + 4 ≤ b.length by omega)
  have HFIN := Lib.hid (show ∀ U, Below W.heap.size W U → QSt w X A c b (r.drop 4) true (U.setCell ⟨X, 1, none⟩ (.int .i64 ((a : Int) + 4))) ∧ KpX X W (U.setCell ⟨X, 1, none⟩ (.int .i64 ((a : Int) + 4))) from fun U hd => by
    have h1 := h.below hd
    have hb := blk_set h1.box 1 (.int .i64 ((a : Int) + 4))
    refine ⟨⟨?_, (List.drop_suffix 4 r).trans h1.suf, h1.row, h1.byt, h1.bel.setCell (p := ⟨X, 1, none⟩) h1.hX _, h1.hX, h1.len⟩, (KpX.below hd).set 1 _⟩
    have e : ((b.length - (r.drop 4).length : Nat) : Int) = (a : Int) + 4 := by rw [List.length_drop]; omega
    rw [e]
    exact hb)
  clear hn hrd h4 hsl ha hby
  go_enter Try.func33, Try.ntmps33
  go_wp2_with fail
  go_quiet (fail)
  go_wp2_with fail
  have HB0 := Lib.hid (show Below W.heap.size W (W.drewN nq) from pw_below_drewN (Below.refl _ _) nq)
  clear h x0 x1 x2 xf1 xf2 e4
  go_loopw [3, 4] (fun v i wr => ∃ k : Nat, k ≤ 4 ∧ v = .int .i64 (nkR r k) ∧ i = .int .i64 k ∧ Hid (Below W.heap.size W wr)) (fun _ i _ => 4 - (intOf i).toNat)
  case atStart => exact ⟨0, by omega, rfl, rfl, HB0⟩
  case round =>
    obtain ⟨k, hk, rfl, rfl, HB⟩ := hrel
    have hb1 := (H.out.below HB.out).box
    have x0 : wr.cell? ⟨X, 0, none⟩ = some (.slice A b.length c) := blk_cell hb1 0
    have x1 : wr.cell? ⟨X, 1, none⟩ = some (.int .i64 ((a : Int))) := by rw [HA.out]; exact blk_cell hb1 1
    by_cases hlt : k < 4
    · have hal := HAL.out
      obtain ⟨ad, rfl, u0⟩ := at_U (Kd.C_below H.out.row (H.out.below HB.out).bel) (a + k) (by omega)
      have hbd1 := HBD.out k (by omega) (by have := HSL.out; have := HA.out; omega)
      have hbd2 := HBD.out (k + 1) (by omega) (by have := HSL.out; have := HA.out; omega)
      have HNK := Lib.hid (show nkR r (k + 1) = 256 * nkR r k + b.getD (a + k) 0 by rw [nkR, HGE.out])
      rw [HNK.out] at hbd2
      obtain ⟨n, hn⟩ : ∃ n, n = nkR r k := ⟨_, rfl⟩
      obtain ⟨x, hx⟩ : ∃ x, x = b.getD (a + k) 0 := ⟨_, rfl⟩
      rw [← hn] at hbd1
      rw [← hn, ← hx] at hbd2 HNK
      rw [← hx] at u0
      rw [← hn]
      have hxb : 0 ≤ x ∧ x ≤ 255 := by
        rw [hx]
        exact H.out.byt _ (by rw [List.getD_eq_getElem?_getD, List.getElem?_eq_getElem (by omega)]; exact List.getElem_mem _)
      have HXB := Lib.hid hxb
      obtain ⟨j, hj⟩ : ∃ j, j = a + k := ⟨_, rfl⟩
      rw [← hj] at u0
      have ej : (a : Int) + (k : Int) = (j : Int) := by omega
      have ew2 : wrap64 (j : Int) = (j : Int) := IntWalk.wrap64_in _ ⟨by omega, by omega⟩
      have ejl : (j : Int) < (b.length : Int) := by omega
      have e256 : wrap64 (256 * n) = 256 * n := IntWalk.wrap64_in _ ⟨by omega, by omega⟩
      have ex : wrap64 x = x := IntWalk.wrap64_in _ ⟨by omega, by omega⟩
      have esum : wrap64 (256 * n + x) = 256 * n + x := IntWalk.wrap64_in _ ⟨by omega, by omega⟩
      have hbW := Lib.hid (pw_below_drewN (Below.refl wr.heap.size wr))
      clear hn hx hj hb1 hal
      go_wp2_with fail
      go_quiet (fail)
      go_wp2_with fail
      have HB1 := Lib.hid (below_step HB.out (hbW.out nq))
      go_roundw
      case rel => exact ⟨k + 1, by omega, by rw [HNK.out], by go_num, HB1⟩
      case measure => simp [intOf]; omega
    · obtain rfl : k = 4 := by omega
      have HFI := Lib.hid (HFIN.out wr HB.out)
      have hbd := HBD.out 4 (by omega) (by have := HSL.out; have := HA.out; have := HAL.out; omega)
      have HBE := Lib.hid (nkR_be r)
      have xf1 := blk_frozen hb1 1
      generalize nkR r 4 = n at *
      have hal := HAL.out
      clear hb1 x0 hk hlt
      by_cases h31 : n < 2147483648
      · have e1 : decide (n ≥ 2147483648) = false := decide_eq_false (by omega)
        have HSG := Lib.hid (show n = sg32 (be32 r) by rw [← HBE.out, sg32, if_pos h31])
        go_wp2_with fail
        go_ret
        exact ⟨by show Ending.returned (.int .i64 n) = _; rw [HSG.out], HFI.out⟩
      · have e1 : decide (n ≥ 2147483648) = true := decide_eq_true (by omega)
        have HSG := Lib.hid (show n - 4294967296 = sg32 (be32 r) by rw [← HBE.out, sg32, if_neg h31])
        have ew3 : wrap64 (n - 4294967296) = n - 4294967296 := IntWalk.wrap64_in _ ⟨by omega, by omega⟩
        go_wp2_with fail
        go_ret
        exact ⟨by show Ending.returned (.int .i64 (n - 4294967296)) = _; rw [HSG.out], HFI.out⟩
end Go.Proofs.Ytehbabkgaecoaaa
