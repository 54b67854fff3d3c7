/- What config's small functions answer: within, meet, Precision, nodes, clocks. -/
import Derived.Test.YtehbabkgaecoaaaCfg
namespace Go.Proofs.Ytehbabkgaecoaaa
set_option linter.unusedVariables false
set_option linter.unusedSimpArgs false
open Go.RowKit Go.Proofs.YtehbabkgaecoaaaW.PrintWords

theorem ret_bool {a b : Bool} (h : a = b) : Ending.returned (.bool a) = .returned (.bool b) := by rw [h]
theorem ret_int {k : IntKind} {a b : Int} (h : a = b) : Ending.returned (.int k a) = .returned (.int k b) := by rw [h]
def withinB (n lo hi : Int) : Bool := decide (lo ≤ n ∧ n ≤ hi)
set_option maxHeartbeats 1000000 in
theorem within_calls (n lo hi : Int) (w : World) : Calls Try.prog 74 #[.int .i64 n, .int .i64 lo, .int .i64 hi] w fun e w' => e = .returned (.bool (withinB n lo hi)) ∧ w = w' := by
  by_cases h1 : lo ≤ n
  · by_cases h2 : n ≤ hi
    · have e : withinB n lo hi = true := decide_eq_true ⟨h1, h2⟩
      rw [e]; clear e
      have e1 : decide (lo ≤ n) = true := decide_eq_true h1
      have e2 : decide (n ≤ hi) = true := decide_eq_true h2
      go_enter Try.func74, Try.ntmps74
      go_wp2
      go_ret
      exact ⟨rfl, rfl⟩
    · have e : withinB n lo hi = false := decide_eq_false (fun h => h2 h.2)
      rw [e]; clear e
      have e1 : decide (lo ≤ n) = true := decide_eq_true h1
      have e2 : decide (n ≤ hi) = false := decide_eq_false h2
      go_enter Try.func74, Try.ntmps74
      go_wp2
      go_ret
      exact ⟨rfl, rfl⟩
  · have e : withinB n lo hi = false := decide_eq_false (fun h => h1 h.1)
    rw [e]; clear e
    have e1 : decide (lo ≤ n) = false := decide_eq_false h1
    go_enter Try.func74, Try.ntmps74
    go_wp2
    go_ret
    exact ⟨rfl, rfl⟩
theorem within_true {n lo hi : Int} (w : World) (h : lo ≤ n ∧ n ≤ hi) : Calls Try.prog 74 #[.int .i64 n, .int .i64 lo, .int .i64 hi] w fun e w' => e = .returned (.bool true) ∧ w = w' := by
  have := within_calls n lo hi w; rwa [show withinB n lo hi = true from decide_eq_true h] at this
theorem within_false {n lo hi : Int} (w : World) (h : ¬ (lo ≤ n ∧ n ≤ hi)) : Calls Try.prog 74 #[.int .i64 n, .int .i64 lo, .int .i64 hi] w fun e w' => e = .returned (.bool false) ∧ w = w' := by
  have := within_calls n lo hi w; rwa [show withinB n lo hi = false from decide_eq_false h] at this

def meetB (a b c d : Int) : Bool := decide (max a c < min b d)
theorem meet_calls (a b c d : Int) (w : World) : Calls Try.prog 77 #[.int .i64 a, .int .i64 b, .int .i64 c, .int .i64 d] w fun e w' => e = .returned (.bool (meetB a b c d)) ∧ w = w' := by
  have e : meetB a b c d = decide (max a c < min b d) := rfl
  rw [e]; clear e
  go_enter Try.func77, Try.ntmps77
  go_wp2
  all_goals
    go_ret
    exact ⟨ret_bool (decide_eq_decide.2 (by omega)), rfl⟩

def precW (C : S29) : Int := wrap64 (wrap64 (2 * wrap64 (C.f2 + C.f3)) + 1)
theorem prec_calls (A1 A8 A9 A10 A11 : Option Addr) (c1 c8 c9 c10 c11 : Nat) (C : S29) (w : World) : Calls Try.prog 22 #[.agg #[.int .i64 C.f0, .slice A1 C.f1.length c1, .int .i64 C.f2, .int .i64 C.f3, .int .i64 C.f4, .int .i64 C.f5, .int .i64 C.f6, .int .i64 C.f7, .slice A8 C.f8.length c8, .slice A9 C.f9.length c9, .slice A10 C.f10.length c10, .slice A11 C.f11.length c11]] w fun e w' => e = .returned (.int .i64 (precW C)) ∧ Below w.heap.size w w' := by
  go_enter Try.func22, Try.ntmps22
  go_wp2
  go_ret
  exact ⟨rfl, (Below.refl _ _).alloc (Nat.le_refl _) _⟩

/-! slices.Index, slices.Contains, at numbers -/
theorem at_I {w : World} {A : Option Addr} {l : List Int} (h : Kd.C kI w A l.length l) (k : Nat) (hk : k < l.length) : ∃ ad v, A = some ad ∧ w.cell? (ad.add k) = some (.int .i64 v) ∧ Hid (l[k]? = some v) := by
  obtain ⟨ad, c, e, _, hK, hc⟩ := Kd.C_get h 0 k (by omega) (by omega)
  have := hc 0 (.int .i64 (l.getD k 0)) (by rw [show c = [.int .i64 (l.getD (k : Int).toNat 0)] from hK]; simp)
  exact ⟨ad, _, e, by simpa [kI, Kd.int, Kd.scalar] using this, Lib.hid (by simp [List.getElem?_eq_getElem hk])⟩
def idxI (l : List Int) (x : Int) : Int := if x ∈ l then (l.idxOf x : Int) else -1
theorem idxI_at {l : List Int} {x : Int} {k : Nat} (hn : x ∉ l.take k) (he : l[k]? = some x) : idxI l x = k := by
  obtain ⟨hk, hm⟩ := List.getElem?_eq_some_iff.1 he
  have hl : l = l.take k ++ x :: l.drop (k + 1) := by
    conv => lhs; rw [← List.take_append_drop k l, List.drop_eq_getElem_cons hk, hm]
  have hin : x ∈ l := hm ▸ List.getElem_mem hk
  rw [idxI, if_pos hin, hl, List.idxOf_append, if_neg hn]
  simp [List.length_take]; omega
theorem not_take_succ {l : List Int} {x v : Int} {k : Nat} (hn : x ∉ l.take k) (he : l[k]? = some v) (h : ¬ x = v) : x ∉ l.take (k + 1) := by
  rw [List.take_add_one, he]
  simp only [List.mem_append, not_or]
  exact ⟨hn, by simpa using h⟩
theorem idxI_none {l : List Int} {x : Int} (hn : x ∉ l) : idxI l x = -1 := by rw [idxI, if_neg hn]
set_option maxHeartbeats 1000000 in
theorem index_calls (A : Option Addr) (c : Nat) (l : List Int) (x : Int) (w : World) (hr : Kd.C kI w A l.length l) : Calls Try.prog 56 #[.slice A l.length c, .int .i64 x] w fun e w' => e = .returned (.int .i64 (idxI l x)) ∧ w = w' := by
  have hl := hr.2.1
  have HR := Lib.hid hr
  clear hr
  go_enter Try.func56, Try.ntmps56
  go_wp2
  go_loop [5, 8] (fun _ i => ∃ k : Nat, k ≤ l.length ∧ i = .int .i64 k ∧ Hid (x ∉ l.take k)) (fun _ i => l.length - (intOf i).toNat)
  case atStart => exact ⟨0, by omega, rfl, Lib.hid (by simp)⟩
  case round =>
    obtain ⟨k, hk, rfl, HN⟩ := hrel
    by_cases hlt : k < l.length
    · obtain ⟨ad, v, rfl, hc, HV⟩ := at_I HR.out k hlt
      by_cases hx : x = v
      · have e1 : (x == v) = true := by simpa using hx
        have hres := Lib.hid (idxI_at HN.out (hx ▸ HV.out))
        clear hx
        go_wp2
        go_ret
        exact ⟨ret_int hres.out.symm, rfl⟩
      · have e1 : (x == v) = false := by simpa using hx
        have HN' := Lib.hid (not_take_succ HN.out HV.out hx)
        clear hx
        go_wp2
        go_round
        case rel => exact ⟨k + 1, by omega, by go_num, HN'⟩
        case measure => simp [intOf]; omega
    · have hn := HN.out
      rw [List.take_of_length_le (by omega)] at hn
      have hres := Lib.hid (idxI_none hn)
      clear hn
      go_wp2
      go_ret
      exact ⟨ret_int hres.out.symm, rfl⟩
theorem contains_calls (A : Option Addr) (c : Nat) (l : List Int) (x : Int) (w : World) (hr : Kd.C kI w A l.length l) : Calls Try.prog 75 #[.slice A l.length c, .int .i64 x] w fun e w' => e = .returned (.bool (decide (x ∈ l))) ∧ w = w' := by
  have HR := Lib.hid hr
  clear hr
  have hd := Lib.hid (show decide (0 ≤ idxI l x) = decide (x ∈ l) from decide_eq_decide.2 (by unfold idxI; split <;> simp_all))
  go_enter Try.func75, Try.ntmps75
  go_wp2_with fail
  refine (index_calls _ _ _ _ _ HR.out).mono ?_
  rintro e w' ⟨rfl, rfl⟩
  go_wp2
  go_ret
  exact ⟨ret_bool hd.out, rfl⟩
/-! nodes -/
def nodesB (C : S29) : Bool := withinB C.f0 4 16 && decide ((C.f1.length : Int) = C.f0) && (List.range C.f0.toNat).all fun n => decide ((n : Int) ∈ C.f1)
theorem all_range_snoc {p : Nat → Bool} {k : Nat} : (List.range (k + 1)).all p = ((List.range k).all p && p k) := by simp [List.range_succ]
set_option maxHeartbeats 1000000 in
theorem nodes_calls (A1 A8 A9 A10 A11 : Option Addr) (c1 c8 c9 c10 c11 : Nat) (C : S29) (w : World) (h : CfgIn w C A1 A8 A9 A10 A11 c1 c8 c9 c10 c11) : Calls Try.prog 63 #[.agg #[.int .i64 C.f0, .slice A1 C.f1.length c1, .int .i64 C.f2, .int .i64 C.f3, .int .i64 C.f4, .int .i64 C.f5, .int .i64 C.f6, .int .i64 C.f7, .slice A8 C.f8.length c8, .slice A9 C.f9.length c9, .slice A10 C.f10.length c10, .slice A11 C.f11.length c11]] w fun e w' => e = .returned (.bool (nodesB C)) ∧ Below w.heap.size w w' := by
  have hb : Below w.heap.size w (w.alloc (Obj.cells #[.int .i64 C.f0, .slice A1 C.f1.length c1, .int .i64 C.f2, .int .i64 C.f3, .int .i64 C.f4, .int .i64 C.f5, .int .i64 C.f6, .int .i64 C.f7, .slice A8 C.f8.length c8, .slice A9 C.f9.length c9, .slice A10 C.f10.length c10, .slice A11 C.f11.length c11] 29)) := (Below.refl _ _).alloc (Nat.le_refl _) _
  have HB := Lib.hid hb
  have HR := Lib.hid (h.below hb).1.2
  clear hb h
  by_cases h1 : 4 ≤ C.f0 ∧ C.f0 ≤ 16
  case neg =>
    have hn : nodesB C = false := by simp [nodesB, withinB, h1]
    rw [hn]; clear hn
    go_enter Try.func63, Try.ntmps63
    go_wp2_with fail
    refine (within_false _ h1).mono ?_
    rintro e w' ⟨rfl, rfl⟩
    go_wp2
    go_ret
    exact ⟨rfl, HB.out⟩
  by_cases h2 : (C.f1.length : Int) = C.f0
  case neg =>
    have hn : nodesB C = false := by simp [nodesB, h2]
    rw [hn]; clear hn
    have e2 : ((C.f1.length : Int) != C.f0) = true := by simpa using h2
    clear h2
    go_enter Try.func63, Try.ntmps63
    go_wp2_with fail
    refine (within_true _ h1).mono ?_
    rintro e w' ⟨rfl, rfl⟩
    go_wp2
    go_ret
    exact ⟨rfl, HB.out⟩
  have hn : nodesB C = (List.range C.f0.toNat).all fun n => decide ((n : Int) ∈ C.f1) := by simp [nodesB, withinB, h1, h2]
  rw [hn]; clear hn
  have e2 : ((C.f1.length : Int) != C.f0) = false := by simpa using h2
  clear h2
  have HD : ∃ p, p = fun (n : Nat) => decide ((n : Int) ∈ C.f1) := ⟨_, rfl⟩
  obtain ⟨p, hp⟩ := HD
  rw [← hp]
  have HP := Lib.hid hp
  clear hp
  obtain ⟨h10, h11⟩ := h1
  go_enter Try.func63, Try.ntmps63
  go_wp2_with fail
  refine (within_true _ ⟨h10, h11⟩).mono ?_
  rintro e w' ⟨rfl, rfl⟩
  go_wp2
  go_loop [3, 18] (fun _ i => ∃ k : Nat, (k : Int) ≤ C.f0 ∧ i = .int .i64 k ∧ Hid ((List.range k).all p = true)) (fun _ i => C.f0.toNat - (intOf i).toNat)
  case atStart => exact ⟨0, by omega, rfl, Lib.hid rfl⟩
  case round =>
    obtain ⟨k, hk, rfl, HN⟩ := hrel
    by_cases hlt : (k : Int) < C.f0
    · have hpk : p k = decide ((k : Int) ∈ C.f1) := by rw [HP.out]
      by_cases hx : (k : Int) ∈ C.f1
      · rw [decide_eq_true hx] at hpk
        have HN' := Lib.hid (show (List.range (k + 1)).all p = true from by rw [all_range_snoc, HN.out, hpk]; rfl)
        have hd := Lib.hid (decide_eq_true hx)
        clear hpk hx
        go_wp2_with fail
        refine (contains_calls _ _ _ _ _ HR.out).mono ?_
        rintro e w' ⟨rfl, rfl⟩
        rw [hd.out]
        go_wp2
        go_round
        case rel => exact ⟨k + 1, by omega, by go_num, HN'⟩
        case measure => simp [intOf]; omega
      · have hres := Lib.hid (show (List.range C.f0.toNat).all p = false from by
          rw [List.all_eq_false]; exact ⟨k, List.mem_range.2 (by omega), by rw [hpk]; simpa using hx⟩)
        have hd := Lib.hid (decide_eq_false hx)
        clear hpk hx
        go_wp2_with fail
        refine (contains_calls _ _ _ _ _ HR.out).mono ?_
        rintro e w' ⟨rfl, rfl⟩
        rw [hd.out]
        go_wp2
        go_ret
        exact ⟨ret_bool hres.out.symm, HB.out⟩
    · have hres := Lib.hid (show (List.range C.f0.toNat).all p = true from by rw [show C.f0.toNat = k by omega]; exact HN.out)
      go_wp2
      go_ret
      exact ⟨ret_bool hres.out.symm, HB.out⟩
end Go.Proofs.Ytehbabkgaecoaaa
