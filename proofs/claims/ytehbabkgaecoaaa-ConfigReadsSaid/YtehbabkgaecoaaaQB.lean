/- rotaref02's reader: a list's length, a list. -/
import Derived.Test.YtehbabkgaecoaaaQA
import Derived.Great.BuildSlice
namespace Go.Proofs.Ytehbabkgaecoaaa
set_option linter.unusedVariables false
set_option linter.unusedSimpArgs false
open Go.RowKit Go.Shelf Go.Proofs.YtehbabkgaecoaaaW.PrintWords Go.Proofs.YtehbabkgaecoaaaW.PrintLast

theorem next_bd (r : List Int) (f : Bool) (hb : ∀ x ∈ r, Byte x) : -2147483648 ≤ (nextD r f).1 ∧ (nextD r f).1 ≤ 2147483647 := by
  cases f
  · rw [next_false]; exact ⟨by show (-2147483648 : Int) ≤ 0; decide, by show (0 : Int) ≤ 2147483647; decide⟩
  by_cases h : (nextD r true).2.2 = true
  · exact (inN_iff _).1 (rn_next.bwd r hb h).1
  · have e : nextD r true = (0, r, false) := by
      unfold nextD at h ⊢
      split
      · rename_i h1; rw [if_pos h1] at h; exact absurd rfl h
      · rfl
    rw [e]; exact ⟨by show (-2147483648 : Int) ≤ 0; decide, by show (0 : Int) ≤ 2147483647; decide⟩
theorem next_suf (r : List Int) (f : Bool) : (nextD r f).2.1 <:+ r := by
  unfold nextD
  split
  · exact List.drop_suffix 4 r
  · exact List.suffix_refl r
set_option maxRecDepth 100000 in
set_option maxHeartbeats 16000000 in
theorem rlead_calls {w W : World} {X : Nat} {A : Option Addr} {c : Nat} {b r : List Int} {f : Bool} (h : QSt w X A c b r f W) (each : Nat) (he : each ≤ 8) :
    Calls Try.prog 35 #[.pointer (some ⟨X, 0, none⟩), .int .i64 each] W fun e W' => e = .returned (.int .i64 (leadR each r f).1) ∧ QSt w X A c b (leadR each r f).2.1 (leadR each r f).2.2 W' ∧ KpX X W W' := by
  have HBY := Lib.hid (show ∀ x ∈ r, Byte x from fun x hx => h.byt x (h.suf.subset hx))
  have HBD := Lib.hid (next_bd r f HBY.out)
  have H := Lib.hid h
  obtain ⟨⟨z1, z2, z3⟩, hz⟩ : ∃ z, z = leadR each r f := ⟨_, rfl⟩
  rw [← hz]
  have hlr : (z1, z2, z3) = if (nextD r f).1 < 0 ∨ 65535 < (nextD r f).1 ∨ ((nextD r f).2.1.length : Int) < 4 * each * (nextD r f).1 then (0, (nextD r f).2.1, false) else nextD r f := hz
  have HLR := Lib.hid hlr
  clear h hlr hz
  go_enter Try.func35, Try.ntmps35
  go_wp2_with fail
  refine (rnum_calls H.out).mono ?_
  rintro e W1 ⟨rfl, h1, k1⟩
  obtain ⟨⟨n, r1, f1⟩, hn⟩ : ∃ x, x = nextD r f := ⟨_, rfl⟩
  have hbd := HBD.out
  have hlr := HLR.out
  rw [← hn] at h1 hbd hlr
  dsimp only at h1 hbd hlr
  rw [show (nextD r f).1 = n by rw [← hn]]
  have HLZ := Lib.hid hlr
  obtain ⟨n0, n1⟩ := hbd
  have H1 := Lib.hid h1
  have K1 := Lib.hid k1
  have hbl : b.length ≤ 1000000000 := h1.len
  have hsl : r1.length ≤ b.length := h1.suf.length_le
  have x0 := blk_cell h1.box 0
  have x1 := blk_cell h1.box 1
  have x2 := blk_cell h1.box 2
  have xf2 := blk_frozen h1.box 2
  obtain ⟨a, ha⟩ : ∃ a, a = b.length - r1.length := ⟨_, rfl⟩
  rw [← ha] at x1
  have hsub : (b.length : Int) - (a : Int) = (r1.length : Int) := by omega
  have ew : wrap64 ((r1.length : Int)) = (r1.length : Int) := IntWalk.wrap64_in _ ⟨by omega, by omega⟩
  have e4 : wrap64 (4 * (each : Int)) = 4 * (each : Int) := IntWalk.wrap64_in _ ⟨by omega, by omega⟩
  have hmul : -70000000000 ≤ 4 * (each : Int) * n ∧ 4 * (each : Int) * n ≤ 70000000000 := by
    obtain rfl | rfl | rfl | rfl | rfl | rfl | rfl | rfl | rfl : each = 0 ∨ each = 1 ∨ each = 2 ∨ each = 3 ∨ each = 4 ∨ each = 5 ∨ each = 6 ∨ each = 7 ∨ each = 8 := by omega
    all_goals (push_cast; omega)
  have e5 : wrap64 (4 * (each : Int) * n) = 4 * (each : Int) * n := IntWalk.wrap64_in _ ⟨by omega, by omega⟩
  have HX := Lib.hid (show ∀ nn, QSt w X A c b r1 false ((W1.drewN nn).setCell ⟨X, 2, none⟩ (.bool false)) ∧ KpX X W ((W1.drewN nn).setCell ⟨X, 2, none⟩ (.bool false)) from fun nn => by
    have hd : Below W1.heap.size W1 (W1.drewN nn) := pw_below_drewN (Below.refl _ _) nn
    have h2 := h1.below hd
    exact ⟨⟨by have := blk_set h2.box 2 (.bool false); exact this, h2.suf, h2.row, h2.byt, h2.bel.setCell (p := ⟨X, 2, none⟩) h2.hX _, h2.hX, h2.len⟩, k1.trans ((KpX.below hd).set 2 _)⟩)
  have HY := Lib.hid (show ∀ nn, QSt w X A c b r1 f1 (W1.drewN nn) ∧ KpX X W (W1.drewN nn) from fun nn => by
    have hd : Below W1.heap.size W1 (W1.drewN nn) := pw_below_drewN (Below.refl _ _) nn
    exact ⟨h1.below hd, k1.trans (KpX.below hd)⟩)
  clear h1 k1 hn hlr HLR HBD HBY H ha
  by_cases hc1 : n < 0
  · have HZ := Lib.hid (show (z1, z2, z3) = (0, r1, false) by rw [HLZ.out, if_pos (Or.inl hc1)])
    have d1 : decide (n < 0) = true := decide_eq_true hc1
    clear hmul hbl hsl e5 e4 ew hsub
    go_wp2_with fail
    go_quiet (fail)
    go_wp2_with fail
    go_ret
    have hz := HZ.out
    cases hz
    exact ⟨rfl, (HX.out nq).1, (HX.out nq).2⟩
  by_cases hc2 : 65535 < n
  · have HZ := Lib.hid (show (z1, z2, z3) = (0, r1, false) by rw [HLZ.out, if_pos (Or.inr (Or.inl hc2))])
    have d1 : decide (n < 0) = false := decide_eq_false hc1
    have d2 : decide (n > 65535) = true := decide_eq_true hc2
    clear hmul hbl hsl e5 e4 ew hsub
    go_wp2_with fail
    go_quiet (fail)
    go_wp2_with fail
    go_ret
    have hz := HZ.out
    cases hz
    exact ⟨rfl, (HX.out nq).1, (HX.out nq).2⟩
  by_cases hc3 : (r1.length : Int) < 4 * each * n
  · have HZ := Lib.hid (show (z1, z2, z3) = (0, r1, false) by rw [HLZ.out, if_pos (Or.inr (Or.inr hc3))])
    have d1 : decide (n < 0) = false := decide_eq_false hc1
    have d2 : decide (n > 65535) = false := decide_eq_false hc2
    have d3 : decide (4 * (each : Int) * n > (r1.length : Int)) = true := decide_eq_true hc3
    clear hmul hbl hsl n0 n1 hc1 hc2 hc3
    go_wp2_with fail
    go_quiet (fail)
    go_wp2_with fail
    go_ret
    have hz := HZ.out
    cases hz
    exact ⟨rfl, (HX.out nq).1, (HX.out nq).2⟩
  have HZ := Lib.hid (show (z1, z2, z3) = (n, r1, f1) by rw [HLZ.out, if_neg (by omega)])
  have d1 : decide (n < 0) = false := decide_eq_false hc1
  have d2 : decide (n > 65535) = false := decide_eq_false hc2
  have d3 : decide (4 * (each : Int) * n > (r1.length : Int)) = false := decide_eq_false hc3
  clear hmul hbl hsl n0 n1 hc1 hc2 hc3
  go_wp2_with fail
  go_quiet (fail)
  go_wp2_with fail
  go_ret
  have hz := HZ.out
  cases hz
  exact ⟨rfl, (HY.out nq).1, (HY.out nq).2⟩
theorem R_kpx {α : Type} {d : Kd α} {e base X : Nat} {ok : Nat → Prop} {v : Value} {xs : List α} {W V : World} (h : Kd.R d e W base ok v xs) (k : KpX X W V) (hX : X < base) : Kd.R d e V base ok v xs :=
  Kd.R_mono (Kd.R_step (Kd.R_bound h) (fun i hi hlt => k.2 i hlt (by have := hi.2.1; omega))) (fun _ hk => hk.1)
theorem QSt.belowX {w W V : World} {X B : Nat} {A : Option Addr} {c : Nat} {b r : List Int} {f : Bool} (h : QSt w X A c b r f W) (hb : Below B W V) (hX : X < B) : QSt w X A c b r f V :=
  ⟨(hb.block X hX).trans h.box, h.suf, h.row, h.byt, h.bel.trans (hb.mono (by have := h.hX; omega)), h.hX, h.len⟩
theorem KpX.belowX {X : Nat} {W V U : World} (h : KpX X W V) (hb : Below W.heap.size V U) : KpX X W U := ⟨Nat.le_trans h.1 hb.size, fun i hi hx => (hb.block i hi).trans (h.2 i hi hx)⟩
theorem loopR_end {α : Type} (q : List Int → Bool → α × List Int × Bool) (n k : Nat) (hk : k < n) (a : List α) (r : List Int) (f : Bool) : loopR q (n - k) a r f = loopR q (n - (k + 1)) (a ++ [(q r f).1]) (q r f).2.1 (q r f).2.2 := by
  rw [show n - k = (n - (k + 1)) + 1 by omega]; rfl
theorem lead_bd (each : Nat) (r : List Int) (f : Bool) : 0 ≤ (leadR each r f).1 ∧ (leadR each r f).1 ≤ 65535 := by
  unfold leadR
  split
  · exact ⟨by show (0 : Int) ≤ 0; decide, by show (0 : Int) ≤ 65535; decide⟩
  · omega
set_option maxRecDepth 100000 in
set_option maxHeartbeats 16000000 in
theorem rlist_calls {w W : World} {X : Nat} {A : Option Addr} {c : Nat} {b r : List Int} {f : Bool} (h : QSt w X A c b r f W) :
    Calls Try.prog 34 #[.pointer (some ⟨X, 0, none⟩)] W fun e W' => ∃ v, e = .returned v ∧ QSt w X A c b (listR r f).2.1 (listR r f).2.2 W' ∧ Kd.R kI 3 W' W.heap.size (fun _ => True) v (listR r f).1 ∧ (listR r f).1.length ≤ 65535 ∧ KpX X W W' := by
  have H := Lib.hid h
  have HXW := Lib.hid (show X < W.heap.size from blk_lt h.box)
  clear h
  go_enter Try.func34, Try.ntmps34
  go_wp2_with fail
  refine (rlead_calls H.out 1 (by decide)).mono ?_
  rintro e W1 ⟨rfl, h1, k1⟩
  have hbd := lead_bd 1 r f
  have HLI := Lib.hid (show listR r f = loopR nextD (leadR 1 r f).1.toNat [] (leadR 1 r f).2.1 (leadR 1 r f).2.2 from rfl)
  obtain ⟨⟨m, r1, f1⟩, hm⟩ : ∃ x, x = leadR 1 r f := ⟨_, rfl⟩
  rw [← hm] at h1 hbd HLI ⊢
  dsimp only at h1 hbd HLI ⊢
  clear hm
  obtain ⟨n, rfl⟩ := Int.eq_ofNat_of_zero_le hbd.1
  rw [Int.toNat_natCast] at HLI
  have hn : n ≤ 65535 := by omega
  have H1 := Lib.hid h1
  have K1 := Lib.hid k1
  clear h1 k1 hbd H
  go_wp2_with fail
  go_loopw [4, 5] (fun v i wr => ∃ (k : Nat) (u : Value) (l r2 : List Int) (f2 : Bool), k ≤ n ∧ i = .int .i64 k ∧ u = v ∧ l.length = k ∧ Hid (loopR nextD (n - k) l r2 f2 = listR r f) ∧ Hid (QSt w X A c b r2 f2 wr) ∧ Hid (KpX X W wr) ∧ Hid (Kd.R kI 3 wr W.heap.size (fun _ => True) u l)) (fun _ i _ => n - (intOf i).toNat)
  case atStart => exact ⟨0, _, [], r1, f1, by omega, rfl, rfl, rfl, Lib.hid HLI.out.symm, H1, K1, Lib.hid (Kd.R_nil _ _ _ _ _)⟩
  case round =>
    obtain ⟨k, u, l, r2, f2, hk, rfl, rfl, hl, HE, HS, HK, HR⟩ := hrel
    by_cases hlt : k < n
    · go_wp2_with fail
      refine (rnum_calls HS.out).mono ?_
      rintro e W2 ⟨rfl, h2, k2⟩
      have HE2 := Lib.hid ((loopR_end nextD n k hlt l r2 f2).symm.trans HE.out)
      obtain ⟨⟨y, r3, f3⟩, hy⟩ : ∃ x, x = nextD r2 f2 := ⟨_, rfl⟩
      rw [← hy] at h2 HE2 ⊢
      dsimp only at h2 HE2 ⊢
      clear hy HE
      have HK2 := Lib.hid (HK.out.trans k2)
      have HR2 := Lib.hid (R_kpx HR.out k2 HXW.out)
      have HS2 := Lib.hid h2
      have HLL := Lib.hid (show (l.length + 1) * 8 ≤ 140737488355328 by omega)
      clear HS HK HR h2 k2
      go_wp2_with (first | ((with_reducible refine gate_z (b := .append) (xs := #[.tmp 16, .tmp 18]) rfl ?_); at_builtin; refine Kd.R_append kI (w0 := W2) W.heap.size rfl (.tmp 16) (.tmp 18) 23 3 (.int .i64 0) 8 rfl Try.underlying23 info3 rfl (Nat.zero_lt_one) (by omega) u l y [.int .i64 y] (fun _ => True) (fun _ => False) rfl rfl rfl (fun _ hk => hk.elim) (fun _ _ => trivial) HR2.out (Below.refl _ _) HK2.out.1 HLL.out ?_; intro v5 W5 ho5 hb5 hg5 hat5; have HO5 := Lib.hid ho5; have HS5 := Lib.hid (HS2.out.belowX hb5 HXW.out); have HK5 := Lib.hid (HK2.out.belowX hb5); clear ho5 hb5 hg5 hat5))
      go_roundw
      case rel => exact ⟨k + 1, _, l ++ [y], r3, f3, by omega, by go_num, rfl, by rw [List.length_append, hl]; rfl, HE2, HS5, HK5, HO5⟩
      case measure => simp [intOf]; omega
    · obtain rfl : k = n := by omega
      have hE := HE.out
      rw [Nat.sub_self] at hE
      have HEE := Lib.hid (show (l, r2, f2) = listR r f from hE)
      clear hE HE
      go_wp2_with fail
      go_ret
      refine ⟨u, rfl, ?_, ?_, ?_, HK.out⟩
      · rw [← HEE.out]; exact HS.out
      · rw [← HEE.out]; exact HR.out
      · rw [← HEE.out]; show l.length ≤ 65535; omega
theorem run_bs_port (a0 a1 a2 a3 a4 a5 : Int) (W : World) : (Instr.buildSlice 26 1 #[(0, .agg #[.int .i64 a0, .int .i64 a1, .int .i64 a2, .int .i64 a3, .int .i64 a4, .int .i64 a5])]).run Try.prog W = .ok (.slice (some ⟨W.heap.size, 0, none⟩) 1 1) (W.alloc (.cells #[.int .i64 a0, .int .i64 a1, .int .i64 a2, .int .i64 a3, .int .i64 a4, .int .i64 a5] 59)) := by
  go_simp
theorem wp_bs_port {o : Oper} {a : Act} {w : World} {K : Act → World → Prop} {Q : Exit → Act → World → Prop} {x : Operand} (ho : o.op = .buildSlice 26 1 #[(0, x)]) {a0 a1 a2 a3 a4 a5 : Int} (hx : a.eval x = .agg #[.int .i64 a0, .int .i64 a1, .int .i64 a2, .int .i64 a3, .int .i64 a4, .int .i64 a5])
    (h : K (a.put o.dst (.slice (some ⟨w.heap.size, 0, none⟩) 1 1)) (w.alloc (.cells #[.int .i64 a0, .int .i64 a1, .int .i64 a2, .int .i64 a3, .int .i64 a4, .int .i64 a5] 59))) : o.wp Try.prog a w K Q := by
  have e : ((#[(0, x)] : Array (Nat × Operand)).map fun (i, y) => (i, a.eval y)) = #[(0, .agg #[.int .i64 a0, .int .i64 a1, .int .i64 a2, .int .i64 a3, .int .i64 a4, .int .i64 a5])] := by simp [hx]
  unfold Oper.wp execOp
  simp only [ho, Sem.run_bind, e, run_bs_port, Result.andThen_ok]
  exact h
end Go.Proofs.Ytehbabkgaecoaaa
