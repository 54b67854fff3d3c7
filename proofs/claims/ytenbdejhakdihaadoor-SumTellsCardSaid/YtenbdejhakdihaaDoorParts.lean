/- The walk of SumParts: the sum of pieces is More of More. -/
import Derived.Test.YtenbdejhakdihaaDoorMore
import Derived.OpenShut
namespace Go.Proofs.YtenbdejhakdihaaDoor
open Go.RowKit Go.Proofs.YtenbdejhakdihaaDoorW.PrintWords Go.Proofs.YtenbdejhakdihaaDoorW.PrintLast

theorem NibsAt.drewN {w : World} (h : NibsAt w) (n : Nat) : NibsAt (w.drewN n) := h
theorem quiet_same {P : Program} {f : FuncId} {args : Array Value} {w : World} {n : Nat} {v : Value}
    (h : Calls P f args (w.drewN n) fun e w' => e = .returned v ∧ w.drewN n = w') : Calls P f args (w.drewN n) fun e w'' => e = .returned v ∧ ∃ m, w'' = w.drewN m :=
  h.mono fun _ _ ⟨he, hm⟩ => ⟨he, n, hm.symm⟩

theorem bytes_wf {l : List Int} (h : ∀ x ∈ l, (Lit.int .u8 x).wf = true) : ∀ x ∈ l, 0 ≤ x ∧ x < 256 := fun x hx => by have := bounds_u8 (h x hx); omega
theorem more_at {W : World} {A : Option Addr} {c : Nat} {l : List Int} (hr : Kd.C (Kd.int .u8) W A l.length l) (hc : l.length ≤ c) (hlen : l.length ≤ 140737488355328) (hw : ∀ x ∈ l, 0 ≤ x ∧ x < 256) (hN : NibsAt W) (s : Nat) (hs : s < 4294967296)
    {n : Nat} (hn : l.length = n) (x : Nat) : Calls Tryd.prog 12 #[.int .u32 s, .slice A n c] (W.drewN x) fun e w' => e = .returned (.int .u32 (more s l)) ∧ W.drewN x = w' := by
  subst hn
  exact more_calls s _ A c l (Kd.C_drewN hr x) hs hc hlen (hN.drewN x) hw
theorem sum_at {W : World} {A : Option Addr} {c : Nat} {l : List Int} (hr : Kd.C (Kd.int .u8) W A l.length l) (hc : l.length ≤ c) (hlen : l.length ≤ 140737488355328) (hw : ∀ x ∈ l, 0 ≤ x ∧ x < 256) (hN : NibsAt W)
    {n : Nat} (hn : l.length = n) (x : Nat) : Calls Tryd.prog 13 #[.slice A n c] (W.drewN x) fun e w' => e = .returned (.int .u32 (more 0 l)) ∧ W.drewN x = w' := by
  subst hn
  exact sum_calls _ A c l (Kd.C_drewN hr x) hc hlen (hN.drewN x) hw
theorem more_lt (s : Nat) (l : List Int) (hs : s < 4294967296) (hw : ∀ x ∈ l, 0 ≤ x ∧ x < 256) : more s l < 4294967296 := by
  refine Nat.xor_lt_two_pow (n := 32) (by decide) (Crc.crc_lt _ _ (Nat.xor_lt_two_pow (n := 32) (by decide) hs) ?_)
  intro c hc
  obtain ⟨x, hx, rfl⟩ := List.mem_map.1 hc
  have := hw x hx
  omega
theorem xor_twice (a b : Nat) : a ^^^ (a ^^^ b) = b := by rw [← Nat.xor_assoc, Nat.xor_self, Nat.zero_xor]
theorem more_append (s : Nat) (a b : List Int) : more (more s a) b = more s (a ++ b) := by
  unfold more
  rw [xor_twice, List.map_append, Crc.crc_append]

set_option maxHeartbeats 400000 in
theorem sumParts_walk (w : World) (A0 : Option Addr) (c0 : Nat) (l0 : List Int) (hr0 : Kd.C (Kd.int .u8) w A0 l0.length l0) (hc0 : l0.length ≤ c0) (hl0 : l0.length * 1 ≤ 140737488351232) (hw0 : ∀ x ∈ l0, (Lit.int .u8 x).wf = true)
    (a1 : Int) (w1 : (Lit.int .u16 a1).wf = true) (a2 : Int) (w2 : (Lit.int .u16 a2).wf = true) (hN : NibsAt w) :
    Calls Tryd.prog 3 #[.slice A0 l0.length c0, .int .u16 a1, .int .u16 a2] w fun e w' => e = .returned (.bool true) ∧ Below w.heap.size w w' := by
  have HA := Lib.hid (alive_calls w hN)
  have b1 := bounds_u16 w1
  have b2 := bounds_u16 w2
  obtain ⟨b1, b1'⟩ := b1
  obtain ⟨b2, b2'⟩ := b2
  rw [Nat.mul_one] at hl0
  have HR := Lib.hid hr0
  have HW := Lib.hid hw0
  have HN := Lib.hid hN
  clear hr0 hw0 hN w1 w2
  by_cases hbig : (100000 : Int) < (l0.length : Int)
  · go_enter Tryd.func3, Tryd.ntmps3
    go_wp2_with fail
    refine HA.out.mono ?_
    rintro e w' ⟨rfl, hb⟩
    go_wp2
    go_ret
    exact ⟨rfl, hb⟩
  · obtain ⟨i, hi⟩ : ∃ i : Nat, a1 % ((l0.length : Int) + 1) = (i : Int) := ⟨(a1 % ((l0.length : Int) + 1)).toNat, by have := Int.emod_nonneg a1 (show (l0.length : Int) + 1 ≠ 0 by omega); omega⟩
    have hil : (i : Int) ≤ (l0.length : Int) := by have := Int.emod_lt_of_pos a1 (show 0 < (l0.length : Int) + 1 by omega); omega
    obtain ⟨d, hd⟩ : ∃ d : Nat, a2 % ((l0.length : Int) - (i : Int) + 1) = (d : Int) := ⟨(a2 % ((l0.length : Int) - (i : Int) + 1)).toNat, by have := Int.emod_nonneg a2 (show (l0.length : Int) - (i : Int) + 1 ≠ 0 by omega); omega⟩
    have hdl : (d : Int) + (i : Int) ≤ (l0.length : Int) := by have := Int.emod_lt_of_pos a2 (show 0 < (l0.length : Int) - (i : Int) + 1 by omega); omega
    go_enter Tryd.func3, Tryd.ntmps3
    go_wp2_with fail
    refine HA.out.mono ?_
    rintro e w' ⟨rfl, hb⟩
    go_wp2_with fail
    have hR := Kd.C_below HR.out hb
    have hW := bytes_wf HW.out
    have hN := HN.out.below hb
    have hin : i ≤ l0.length := by omega
    have hdn : i + d ≤ l0.length := by omega
    have h1 := sum_at (Kd.C_take hR hin) (by rw [List.length_take]; omega) (by rw [List.length_take]; omega) (fun x hx => hW x (List.mem_of_mem_take hx)) hN (n := i) (by rw [List.length_take]; omega) (c := c0)
    have h2 := more_at (Kd.C_mid hR (Nat.le_add_right i d) hdn hc0) (c := c0 - i) (by simp only [List.length_drop, List.length_take]; omega) (by simp only [List.length_drop, List.length_take]; omega) (fun x hx => hW x (List.mem_of_mem_take (List.mem_of_mem_drop hx))) hN (more 0 (l0.take i)) (more_lt _ _ (by decide) (fun x hx => hW x (List.mem_of_mem_take hx))) (n := d) (by simp only [List.length_drop, List.length_take]; omega)
    have h3 := more_at (Kd.C_drop hR hdn hc0) (c := c0 - (i + d)) (by simp only [List.length_drop]; omega) (by simp only [List.length_drop]; omega) (fun x hx => hW x (List.mem_of_mem_drop hx)) hN (more (more 0 (l0.take i)) ((l0.take (i + d)).drop i)) (more_lt _ _ (more_lt _ _ (by decide) (fun x hx => hW x (List.mem_of_mem_take hx))) (fun x hx => hW x (List.mem_of_mem_take (List.mem_of_mem_drop hx)))) (n := l0.length - (i + d)) (by simp only [List.length_drop])
    have h4 := sum_at hR hc0 (by omega) hW hN (n := l0.length) rfl
    have hall : more (more (more 0 (l0.take i)) ((l0.take (i + d)).drop i)) (l0.drop (i + d)) = more 0 l0 := by
      rw [more_append, more_append]
      have e1 : l0.take i ++ (l0.take (i + d)).drop i = l0.take (i + d) := by
        have := List.take_append_drop i (l0.take (i + d))
        rwa [List.take_take, Nat.min_eq_left (Nat.le_add_right i d)] at this
      rw [← List.append_assoc, e1, List.take_append_drop]
    rw [hall] at h3
    simp only [Kd.int, Kd.scalar, Nat.mul_one] at h2 h3
    have H1 := Lib.hid h1
    have H2 := Lib.hid h2
    have H3 := Lib.hid h3
    have H4 := Lib.hid h4
    clear h1 h2 h3 h4 hall hR hW hN hin hdn
    go_quiet ((first | (with_reducible exact quiet_same (H1.out _)) | (with_reducible exact quiet_same (H2.out _)) | (with_reducible exact quiet_same (H3.out _)) | (with_reducible exact quiet_same (H4.out _))))
    go_wp2
    all_goals
      go_ret
      exact ⟨rfl, pw_below_drewN hb _⟩
end Go.Proofs.YtenbdejhakdihaaDoor
