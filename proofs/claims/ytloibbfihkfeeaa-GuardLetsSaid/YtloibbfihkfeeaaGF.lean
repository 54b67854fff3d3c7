/- The iterator 'passed': what it hands out. -/
import Derived.Test.YtloibbfihkfeeaaGE
namespace Go.Proofs.Ytloibbfihkfeeaa
set_option linter.unusedVariables false
set_option linter.unusedSimpArgs false
open Go.RowKit Go.Shelf Go.Proofs.YtloibbfihkfeeaaW.PrintWords
attribute [local go_sem] Oper.semAt_some

/-- The shots that were let through among the first k. -/
def psd (l : List Sh) (out : List Int) : Nat → List Sh
  | 0 => []
  | k + 1 => psd l out k ++ (match l[k]?, out[k]? with | some x, some v => if v = 0 then [x] else [] | _, _ => [])
theorem psd_hit {l : List Sh} {out : List Int} {k : Nat} {x : Sh} {v : Int} (h : l[k]? = some x) (h' : out[k]? = some v) (hv : v = 0) : psd l out (k + 1) = psd l out k ++ [x] := by
  subst hv; simp [psd, h, h']
theorem psd_miss {l : List Sh} {out : List Int} {k : Nat} {v : Int} (h' : out[k]? = some v) (hv : v ≠ 0) : psd l out (k + 1) = psd l out k := by
  cases h : l[k]? <;> simp [psd, h, h', hv]
theorem psd_pre {l : List Sh} {out : List Int} (k : Nat) : ∀ (n : Nat), k ≤ n → psd l out k <+: psd l out n := by
  intro n hn
  induction n with
  | zero => rw [show k = 0 by omega]; exact List.prefix_refl _
  | succ n ih =>
    by_cases h : k = n + 1
    · subst h; exact List.prefix_refl _
    · exact (ih (by omega)).trans (List.prefix_append _ _)
set_option maxRecDepth 100000 in
set_option maxHeartbeats 2000000 in
theorem passed1_in (F : Fence) (m : Nat) (hf : F.fn 44) (hro : F.round = none) (hm : 1 ≤ m) (lb Bl Bo : Nat) (A Ao : Option Addr) (l : List Sh) (out : List Int) (c co : Nat) (hle : out.length ≤ l.length) (hmx : l.length ≤ 4611686018427387904)
    (J Jx : List Sh → World → Prop) (w0 W : World) (hw0 : w0.heap.size ≤ W.heap.size) (hbl : Bl < w0.heap.size) (HL0 : ∀ W', Below w0.heap.size W W' → Kd.C k32 W' A l.length l ∧ Kd.C kI W' Ao out.length out)
    (hl : W.cell? ⟨Bl, 0, none⟩ = some (.slice A l.length c)) (ho : W.cell? ⟨Bo, 0, none⟩ = some (.slice Ao out.length co)) 
    (hY : ∀ pre x W1, J pre W1 → pre.length < (psd l out out.length).length → YieldAt F (m - 1) Try.prog lb #[.agg #[.int .i64 x.f0, .int .i64 x.f1, .int .i64 x.f2]] W1 fun e W' =>
      (e = .returned (.bool true) ∧ J (pre ++ [x]) W' ∧ Below w0.heap.size W1 W') ∨ (e = .returned (.bool false) ∧ Jx (pre ++ [x]) W'))
    (h0 : J [] W) :
    CallsIn F m Try.prog 44 #[.func (.yield lb) #[] #[], .pointer (some ⟨Bo, 0, none⟩), .pointer (some ⟨Bl, 0, none⟩)] W fun e W' => (∃ v, e = .returned v) ∧
      ((∃ ys, ys = psd l out out.length ∧ J ys W') ∨ (∃ pre, pre <+: psd l out out.length ∧ Jx pre W')) := by
  have HH := Lib.hid HL0
  clear HL0
  refine callsIn_of_wp Try.func44 rfl hf ?_ hro
  simp only [Try.ntmps44, List.size_toArray, List.length_cons, List.length_nil, Nat.reduceAdd, Nat.reduceSub, Array.replicate_succ, Array.replicate_zero, List.push_toArray, List.append_toArray, List.nil_append, List.cons_append]
  gi_wp2
  gi_loopw [8] (fun i wr => ∃ k : Nat, k ≤ out.length ∧ i = .int .i64 k ∧ Hid (J (psd l out k) wr) ∧ Hid (Below w0.heap.size W wr)) (fun i _ => out.length - (intOf i).toNat)
  case atStart => exact ⟨0, by omega, rfl, Lib.hid h0, Lib.hid (Below.refl _ _)⟩
  case round =>
    obtain ⟨k, hk, rfl, HJ, HB⟩ := hrel
    by_cases hlt : k < out.length
    · obtain ⟨ao, v, ea, v0, HV⟩ := at_I (HH.out _ HB.out).2 k hlt
      subst ea
      obtain ⟨ad, x, e1, p0, p1, p2, HX⟩ := at_S (HH.out _ HB.out).1 k (by omega)
      subst e1
      have hlc := (HB.out.cell (p := ⟨Bl, 0, none⟩) hbl).trans hl
      by_cases hv : v = 0
      · have hst := Lib.hid (psd_hit HX.out HV.out hv)
        have hlen : (psd l out k).length < (psd l out out.length).length := by
          have := (psd_pre (l := l) (out := out) (k + 1) _ hlt).length_le
          rw [hst.out] at this; simp at this; omega
        obtain ⟨fn, tmps, assign, body, hy, hR⟩ := hY _ x _ HJ.out hlen
        clear hlen
        have e0 : (v == 0) = true := by simpa using hv
        clear hv
        gi_wp2
        refine hR.mono ?_
        rintro e W3 (⟨rfl, hJ3, hk3⟩ | ⟨rfl, hJx3⟩)
        · gi_wp2
          go_roundw
          case rel => exact ⟨k + 1, by omega, by simp, Lib.hid (by rw [hst.out]; exact hJ3), Lib.hid (HB.out.trans hk3)⟩
          case measure => simp [intOf]; omega
        · gi_wp2
          refine bodyPost_ret (results_none rfl _ _ _) rfl ?_
          exact ⟨⟨_, rfl⟩, .inr ⟨_, by rw [← hst.out]; exact psd_pre _ _ hlt, hJx3⟩⟩
      · have hst := Lib.hid (psd_miss (l := l) HV.out hv)
        have e0 : (v == 0) = false := by simpa using hv
        clear hv
        gi_wp2
        refine ⟨fun f h => by simp at h, ?_⟩
        gi_wp2
        go_roundw
        case rel => exact ⟨k + 1, by omega, by simp, Lib.hid (by rw [hst.out]; exact HJ.out), HB⟩
        case measure => simp [intOf]; omega
    · have hkn : k = out.length := by omega
      subst hkn
      gi_wp2
      go_end0
      exact ⟨⟨_, rfl⟩, .inl ⟨_, rfl, HJ.out⟩⟩
theorem passed_stops (F : Fence) (m : Nat) (hf : F.fn 44) (hro : F.round = none) (hm : 1 ≤ m) (Bl Bo : Nat) (A Ao : Option Addr) (l : List Sh) (out : List Int) (c co : Nat) (hle : out.length ≤ l.length) (hmx : l.length ≤ 4611686018427387904) (w : World)
    (hl : w.cell? ⟨Bl, 0, none⟩ = some (.slice A l.length c)) (ho : w.cell? ⟨Bo, 0, none⟩ = some (.slice Ao out.length co)) (HL : Kd.C k32 w A l.length l) (HO : Kd.C kI w Ao out.length out) :
    SeqStopsK F m Try.prog 44 #[.pointer (some ⟨Bo, 0, none⟩), .pointer (some ⟨Bl, 0, none⟩)] (fun x : Sh => #[.agg #[.int .i64 x.f0, .int .i64 x.f1, .int .i64 x.f2]]) (Below w.heap.size) (fun ys => ys = psd l out out.length) (fun pre => pre <+: psd l out out.length) (psd l out out.length).length w := fun lb J Jx W hW _ _ hY h0 => by
  have hbl := World.block_lt_of_cell? w _ hl
  have hbo := World.block_lt_of_cell? w _ ho
  refine (passed1_in F m hf hro hm lb Bl Bo A Ao l out c co hle hmx J Jx w W hW.size hbl (fun W' hW' => ⟨Kd.C_below HL (hW.trans hW'), Kd.C_below HO (hW.trans hW')⟩) ((hW.cell (p := ⟨Bl, 0, none⟩) hbl).trans hl) ((hW.cell (p := ⟨Bo, 0, none⟩) hbo).trans ho) hY h0).mono ?_
  rintro e W' ⟨he, ⟨ys, rfl, hj⟩ | ⟨pre, hp, hj⟩⟩
  · exact ⟨he, .inl ⟨_, rfl, hj⟩⟩
  · exact ⟨he, .inr ⟨_, hp, hj⟩⟩
set_option maxHeartbeats 1000000 in
/-- 'passed': both are boxed; the function value captures the boxes. -/
theorem passed_in (F : Fence) (m : Nat) (hf : F.fn 35) (hro : F.round = none) (A Ao : Option Addr) (n c no co : Nat) (w : World) :
    CallsIn F m Try.prog 35 #[.slice A n c, .slice Ao no co] w fun e w' => e = .returned (.func (.func 44) #[] #[.pointer (some ⟨w.heap.size + 1, 0, none⟩), .pointer (some ⟨w.heap.size, 0, none⟩)]) ∧ w' = (w.alloc (.cells #[.slice A n c] 45)).alloc (.cells #[.slice Ao no co] 22) := by
  refine callsIn_of_wp Try.func35 rfl hf ?_ hro
  simp only [Try.ntmps35, List.size_toArray, List.length_cons, List.length_nil, Nat.reduceAdd, Nat.reduceSub, Array.replicate_succ, Array.replicate_zero, List.push_toArray, List.append_toArray, List.nil_append, List.cons_append]
  gi_wp2
  go_ret
  exact ⟨rfl, rfl⟩
end Go.Proofs.Ytloibbfihkfeeaa
