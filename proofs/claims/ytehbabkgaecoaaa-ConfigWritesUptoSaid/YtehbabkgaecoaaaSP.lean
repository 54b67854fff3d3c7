/- A configuration in memory of its own, one number of it written over: what it reads as then. -/
import Derived.Test.YtehbabkgaecoaaaTW
namespace Go.Proofs.Ytehbabkgaecoaaa
set_option linter.unusedVariables false
set_option linter.unusedSimpArgs false
open Go.RowKit Go.Shelf Go.Proofs.YtehbabkgaecoaaaW.PrintWords Go.Proofs.YtehbabkgaecoaaaW.PrintLast

theorem seg1 {α : Type} {d : Kd α} {e base : Nat} {ok : Nat → Prop} {W : World} {A : Option Addr} {c : Nat} {xs : List α} (h : d.R e W base ok (.slice A xs.length c) xs) (z : α) (i : Nat) (hi : i < xs.length) (j : Nat) (hj : j < d.sz) :
    ∃ g cs v, A = some ⟨g, 0, none⟩ ∧ base ≤ g ∧ ok g ∧ (∃ cells, W.heap[g]? = some (.cells cells e (0, 0))) ∧ W.cell? ⟨g, i * d.sz + j, none⟩ = some v ∧ cs[j]? = some v ∧ W.frozen? ⟨g, i * d.sz + j, none⟩ = false ∧ d.M W base (fun k => ok k ∧ k ≠ g) (xs.getD i z) cs ∧
      ∀ u x', u.oneCell' = true → d.M W base (fun k => ok k ∧ k ≠ g) x' (cs.take j ++ [u] ++ cs.drop (j + 1)) → d.R e (W.setCell ⟨g, i * d.sz + j, none⟩ u) base ok (.slice A xs.length c) (xs.set i x') := by
  obtain ⟨g, cap, hv, hb, hlt, cells, hc⟩ := Kd.R_form h (by omega)
  injection hv with hA hn hcap
  subst hA; subst hcap
  obtain ⟨cs, hl, hM, hcc, hf⟩ := Kd.R_elem h z (i : Int) (by omega) (by omega)
  rw [Int.toNat_natCast] at hM hcc hf
  obtain ⟨v, hv'⟩ : ∃ v, cs[j]? = some v := ⟨cs[j], List.getElem?_eq_getElem (by omega)⟩
  refine ⟨g, cs, v, rfl, hb, h.1 g (by simp [Value.ownBlock]), ⟨cells, hc⟩, hcc j v hv', hv', hf j, hM, fun u x' hu hM' => ?_⟩
  have := (Kd.R_seg h (i : Int) (by omega) (by omega) hl (by rw [Int.toNat_natCast]; exact hcc) (seg := [u]) (j := j) (by simp; omega) hM' (fun k hk => hk)).1
  rw [Int.toNat_natCast] at this
  exact this
section
variable {W : World} {base : Nat} {C : S29} {A1 A8 A9 A10 A11 : Option Addr} {c1 c8 c9 c10 c11 : Nat}
theorem kb_set (W : World) (g o : Nat) (u : Value) : KeepBut W (W.setCell ⟨g, o, none⟩ u) g none := (KeepBut.refl W g none).set_ o u
theorem sets_one (W : World) (g o : Nat) (u : Value) : W.setCells g o [u] = W.setCell ⟨g, o, none⟩ u := rfl
theorem R_off {α : Type} {d : Kd α} {e b : Nat} {ok : Nat → Prop} {v : Value} {xs : List α} (h : d.R e W b ok v xs) {g t : Nat} {cells : Array Value} (hb : W.heap[g]? = some (.cells cells t (0, 0))) (ht : ∀ q, q ∈ e :: d.E → q ≠ t) (o : Nat) (u : Value) : d.R e (W.setCell ⟨g, o, none⟩ u) b (fun k => ok k ∧ k ≠ g) v xs :=
  Kd.R_keep (Kd.R_types h hb ht) (kb_set W g o u) (fun k hk => hk.2)
theorem R_offb {α : Type} {d : Kd α} {e b : Nat} {ok : Nat → Prop} {v : Value} {xs : List α} (h : d.R e W b ok v xs) {g : Nat} (hg : g < b) (o : Nat) (u : Value) : d.R e (W.setCell ⟨g, o, none⟩ u) b (fun k => ok k ∧ b ≤ k) v xs :=
  Kd.R_keep (Kd.R_mono (Kd.R_bound h) (fun k hk => (⟨hk.1, hk.2.1⟩ : ok k ∧ b ≤ k))) (kb_set W g o u) (fun k hk => by have := hk.2; omega)
theorem read_row {α : Type} {d : Kd α} {e b : Nat} {ok : Nat → Prop} {A : Option Addr} {n c : Nat} {xs : List α} (h : d.R e W b ok (.slice A n c) xs) : n ≤ c ∧ d.C W A xs.length xs := ⟨(Kd.R_reads' h).2.1, (Kd.R_reads' h).2.2⟩
/-- One of the owners. -/
theorem spoil0 (h : OwnCfg W base C A1 A8 A9 A10 A11 c1 c8 c9 c10 c11) (i : Nat) (hi : i < C.f1.length) : ∃ g v, A1 = some ⟨g, 0, none⟩ ∧ base ≤ g ∧ (∃ cells, W.heap[g]? = some (.cells cells 3 (0, 0))) ∧ W.cell? ⟨g, i, none⟩ = some v ∧ W.frozen? ⟨g, i, none⟩ = false ∧ ∀ x, CfgIn (W.setCell ⟨g, i, none⟩ (.int .i64 x)) { C with f1 := C.f1.set i x } A1 A8 A9 A10 A11 c1 c8 c9 c10 c11 := by
  obtain ⟨b, b2, hb, hb2, r1, r8, r9, r10, r11⟩ := h
  obtain ⟨g, cs, v, hA, hg, hok, ⟨cells, hc⟩, hv, hcs, hf, hM, hS⟩ := seg1 r1 0 i hi 0 (by decide)
  have e0 : i * kI.sz + 0 = i := by show i * 1 + 0 = i; omega
  rw [e0] at hv hf hS
  refine ⟨g, v, hA, hg, ⟨cells, hc⟩, hv, hf, fun x => ?_⟩
  have hl : cs.length = 1 := kI.K_len (kI.K_of_M hM)
  have hr1 := hS (.int .i64 x) x rfl (by
    obtain ⟨y, rfl⟩ : ∃ y, cs = [y] := List.length_eq_one_iff.1 hl
    rfl)
  have q8 := R_off r8 hc (by decide) i (.int .i64 x)
  have q10 := R_off r10 hc (by decide) i (.int .i64 x)
  have q9 := R_offb r9 hok i (.int .i64 x)
  have q11 := R_offb r11 (Nat.lt_of_lt_of_le hok hb2) i (.int .i64 x)
  refine ⟨⟨?_, ?_⟩, read_row q8, read_row q9, read_row q10, read_row q11⟩
  · have := (read_row hr1).1; rwa [List.length_set]
  · exact (read_row hr1).2
/-- A partition's end. -/
theorem spoil3 (h : OwnCfg W base C A1 A8 A9 A10 A11 c1 c8 c9 c10 c11) (i : Nat) (hi : i < C.f8.length) : ∃ g v, A8 = some ⟨g, 0, none⟩ ∧ base ≤ g ∧ (∃ cells, W.heap[g]? = some (.cells cells 57 (0, 0))) ∧ W.cell? ⟨g, i * 3 + 2, none⟩ = some v ∧ W.frozen? ⟨g, i * 3 + 2, none⟩ = false ∧ ∀ x, ∃ l, l.length = C.f8.length ∧ CfgIn (W.setCell ⟨g, i * 3 + 2, none⟩ (.int .i64 x)) { C with f8 := l } A1 A8 A9 A10 A11 c1 c8 c9 c10 c11 := by
  obtain ⟨b, b2, hb, hb2, r1, r8, r9, r10, r11⟩ := h
  obtain ⟨g, cs, v, hA, hg, hok, ⟨cells, hc⟩, hv, hcs, hf, hM, hS⟩ := seg1 r8 ⟨0, 0, 0⟩ i hi 2 (by decide)
  refine ⟨g, v, hA, hg, ⟨cells, hc⟩, hv, hf, fun x => ?_⟩
  generalize hp : C.f8.getD i ⟨0, 0, 0⟩ = p at hM
  obtain rfl := k57_openM hM
  have hr8 := hS (.int .i64 x) { p with f2 := x } rfl (k57_mkM _ _ _ _)
  have q1 := R_off r1 hc (by decide) (i * 3 + 2) (.int .i64 x)
  have q10 := R_off r10 hc (by decide) (i * 3 + 2) (.int .i64 x)
  have q9 := R_off r9 hc (by decide) (i * 3 + 2) (.int .i64 x)
  have q11 := R_off r11 hc (by decide) (i * 3 + 2) (.int .i64 x)
  refine ⟨C.f8.set i { p with f2 := x }, List.length_set, read_row q1, ⟨?_, ?_⟩, read_row q9, read_row q10, read_row q11⟩
  · have := (read_row hr8).1; rwa [List.length_set]
  · exact (read_row hr8).2
/-- A port's size. -/
theorem spoil5 (h : OwnCfg W base C A1 A8 A9 A10 A11 c1 c8 c9 c10 c11) (i : Nat) (hi : i < C.f10.length) : ∃ g v, A10 = some ⟨g, 0, none⟩ ∧ base ≤ g ∧ (∃ cells, W.heap[g]? = some (.cells cells 59 (0, 0))) ∧ W.cell? ⟨g, i * 6 + 3, none⟩ = some v ∧ W.frozen? ⟨g, i * 6 + 3, none⟩ = false ∧ ∀ x, ∃ l, l.length = C.f10.length ∧ CfgIn (W.setCell ⟨g, i * 6 + 3, none⟩ (.int .i64 x)) { C with f10 := l } A1 A8 A9 A10 A11 c1 c8 c9 c10 c11 := by
  obtain ⟨b, b2, hb, hb2, r1, r8, r9, r10, r11⟩ := h
  obtain ⟨g, cs, v, hA, hg, hok, ⟨cells, hc⟩, hv, hcs, hf, hM, hS⟩ := seg1 r10 ⟨0, 0, 0, 0, 0, 0⟩ i hi 3 (by decide)
  refine ⟨g, v, hA, hg, ⟨cells, hc⟩, hv, hf, fun x => ?_⟩
  generalize hp : C.f10.getD i ⟨0, 0, 0, 0, 0, 0⟩ = p at hM
  obtain rfl := k59_openM hM
  have hr10 := hS (.int .i64 x) { p with f3 := x } rfl (k59_mkM _ _ _ _)
  have q1 := R_off r1 hc (by decide) (i * 6 + 3) (.int .i64 x)
  have q8 := R_off r8 hc (by decide) (i * 6 + 3) (.int .i64 x)
  have q9 := R_off r9 hc (by decide) (i * 6 + 3) (.int .i64 x)
  have q11 := R_off r11 hc (by decide) (i * 6 + 3) (.int .i64 x)
  refine ⟨C.f10.set i { p with f3 := x }, List.length_set, read_row q1, read_row q8, read_row q9, ⟨?_, ?_⟩, read_row q11⟩
  · have := (read_row hr10).1; rwa [List.length_set]
  · exact (read_row hr10).2
/-- A link's offset (j = 2), or its source (j = 0). -/
theorem spoil6 (h : OwnCfg W base C A1 A8 A9 A10 A11 c1 c8 c9 c10 c11) (i : Nat) (hi : i < C.f11.length) (j : Nat) (hj : j = 2 ∨ j = 0) : ∃ g v, A11 = some ⟨g, 0, none⟩ ∧ base ≤ g ∧ (∃ cells, W.heap[g]? = some (.cells cells 61 (0, 0))) ∧ W.cell? ⟨g, i * 3 + j, none⟩ = some v ∧ W.frozen? ⟨g, i * 3 + j, none⟩ = false ∧ ∀ x, ∃ l, l.length = C.f11.length ∧ CfgIn (W.setCell ⟨g, i * 3 + j, none⟩ (.int .i64 x)) { C with f11 := l } A1 A8 A9 A10 A11 c1 c8 c9 c10 c11 := by
  obtain ⟨b, b2, hb, hb2, r1, r8, r9, r10, r11⟩ := h
  obtain ⟨g, cs, v, hA, hg, hok, ⟨cells, hc⟩, hv, hcs, hf, hM, hS⟩ := seg1 r11 ⟨0, [], 0⟩ i hi j (by rcases hj with rfl | rfl <;> decide)
  refine ⟨g, v, hA, by omega, ⟨cells, hc⟩, hv, hf, fun x => ?_⟩
  generalize hp : C.f11.getD i ⟨0, [], 0⟩ = p at hM
  obtain ⟨v1, rfl, hv1⟩ := k61_openM hM
  have hr11 : ∃ y, Kd.R k61 61 (W.setCell ⟨g, i * 3 + j, none⟩ (.int .i64 x)) b2 (fun _ => True) (.slice A11 C.f11.length c11) (C.f11.set i y) := by
    rcases hj with rfl | rfl
    · exact ⟨_, hS (.int .i64 x) { p with f2 := x } rfl (k61_mkM _ _ _ { p with f2 := x } hv1)⟩
    · exact ⟨_, hS (.int .i64 x) { p with f0 := x } rfl (k61_mkM _ _ _ { p with f0 := x } hv1)⟩
  obtain ⟨y, hr11⟩ := hr11
  have q1 := R_off r1 hc (by decide) (i * 3 + j) (.int .i64 x)
  have q8 := R_off r8 hc (by decide) (i * 3 + j) (.int .i64 x)
  have q9 := R_off r9 hc (by decide) (i * 3 + j) (.int .i64 x)
  have q10 := R_off r10 hc (by decide) (i * 3 + j) (.int .i64 x)
  refine ⟨C.f11.set i y, List.length_set, read_row q1, read_row q8, read_row q9, read_row q10, ⟨?_, ?_⟩⟩
  · have := (read_row hr11).1; rwa [List.length_set]
  · exact (read_row hr11).2
theorem spoil7 (h : OwnCfg W base C A1 A8 A9 A10 A11 c1 c8 c9 c10 c11) (i : Nat) (hi : i < C.f11.length) : ∃ g v, A11 = some ⟨g, 0, none⟩ ∧ base ≤ g ∧ (∃ cells, W.heap[g]? = some (.cells cells 61 (0, 0))) ∧ W.cell? ⟨g, i * 3, none⟩ = some v ∧ W.frozen? ⟨g, i * 3, none⟩ = false ∧ ∀ x, ∃ l, l.length = C.f11.length ∧ CfgIn (W.setCell ⟨g, i * 3, none⟩ (.int .i64 x)) { C with f11 := l } A1 A8 A9 A10 A11 c1 c8 c9 c10 c11 := by
  have := spoil6 h i hi 0 (.inr rfl)
  simp only [Nat.add_zero] at this
  exact this
theorem pick_list {α : Type} (P : Nat → α → Prop) (n : Nat) (h : ∀ j, j < n → ∃ y, P j y) : ∃ ys : List α, ys.length = n ∧ ∀ j y, ys[j]? = some y → P j y := by
  induction n with
  | zero => exact ⟨[], rfl, fun j y hy => by simp at hy⟩
  | succ n ih =>
    obtain ⟨ys, hl, hys⟩ := ih (fun j hj => h j (by omega))
    obtain ⟨y, hy⟩ := h n (by omega)
    refine ⟨ys ++ [y], by simp [hl], fun j z hz => ?_⟩
    rcases Nat.lt_or_ge j ys.length with hj | hj
    · rw [List.getElem?_append_left hj] at hz; exact hys j z hz
    · rw [List.getElem?_append_right hj] at hz
      have hj0 : j - ys.length = 0 := by
        rcases Nat.eq_zero_or_pos (j - ys.length) with h | h
        · exact h
        · rw [List.getElem?_eq_none (by simp; omega)] at hz; cases hz
      rw [hj0] at hz
      cases hz
      rw [show j = n by omega]; exact hy
/-- A row of numbers, and rows of such, where a number was written over a number. -/
theorem C_poke {A : Option Addr} {n : Nat} {xs : List Int} (h : Kd.C kI W A n xs) (p : Addr) (x : Int) : ∃ ys, ys.length = xs.length ∧ Kd.C kI (W.setCell p (.int .i64 x)) A n ys := by
  obtain ⟨hl, hm, hc⟩ := h
  have key : ∀ j, j < n → ∃ y : Int, ∀ ad, A = some ad → (W.setCell p (.int .i64 x)).cell? (ad.add j) = some (.int .i64 y) := by
    intro j hj
    obtain ⟨ad, hA, hcc⟩ := hc (by omega)
    obtain ⟨q, hq⟩ : ∃ q, xs[j]? = some q := ⟨xs[j]'(by omega), List.getElem?_eq_getElem (by omega)⟩
    obtain ⟨c, _, hK, hcell⟩ := hcc j q hq
    obtain rfl : c = [.int .i64 q] := hK
    have h0 := hcell 0 (.int .i64 q) rfl
    have e1 : j * kI.sz + 0 = j := by show j * 1 + 0 = j; omega
    rw [e1] at h0
    by_cases hp : p = ad.add j
    · exact ⟨x, fun ad' h' => by rw [hA] at h'; cases h'; rw [hp]; exact World.cell?_setCell_same _ _ _ h0⟩
    · exact ⟨q, fun ad' h' => by rw [hA] at h'; cases h'; rw [World.cell?_setCell_other _ _ _ _ hp]; exact h0⟩
  obtain ⟨ys, hyl, hys⟩ := pick_list _ n key
  refine ⟨ys, by omega, hyl, hm, fun hn => ?_⟩
  obtain ⟨ad, hA, _⟩ := hc hn
  refine ⟨ad, hA, fun j q hq => ⟨[.int .i64 q], rfl, rfl, fun i u hu => ?_⟩⟩
  match i, hu with
  | 0, hu =>
    simp at hu
    subst hu
    have e1 : j * kI.sz + 0 = j := by show j * 1 + 0 = j; omega
    rw [e1]
    exact hys j q hq ad hA
  | i + 1, hu => simp at hu
theorem C_pokes {A : Option Addr} {n : Nat} {l : List (List Int)} (h : Kd.C (Kd.slice 3 kI) W A n l) {p : Addr} {x0 : Int} (hp : W.cell? p = some (.int .i64 x0)) (x : Int) : ∃ m, m.length = l.length ∧ Kd.C (Kd.slice 3 kI) (W.setCell p (.int .i64 x)) A n m := by
  obtain ⟨hl, hm, hc⟩ := h
  have key : ∀ j, j < n → ∃ y : List Int, ∀ ad, A = some ad → ∃ Ar cr, (W.setCell p (.int .i64 x)).cell? (ad.add j) = some (.slice Ar y.length cr) ∧ y.length ≤ cr ∧ Kd.C kI (W.setCell p (.int .i64 x)) Ar y.length y := by
    intro j hj
    obtain ⟨ad, hA, hcc⟩ := hc (by omega)
    obtain ⟨q, hq⟩ : ∃ q, l[j]? = some q := ⟨l[j]'(by omega), List.getElem?_eq_getElem (by omega)⟩
    obtain ⟨c, _, ⟨Ar, cr, hcv, hlc, hC⟩, hcell⟩ := hcc j q hq
    subst hcv
    have h0 := hcell 0 _ rfl
    have e1 : j * (Kd.slice 3 kI).sz + 0 = j := by show j * 1 + 0 = j; omega
    rw [e1] at h0
    have hne : p ≠ ad.add j := fun he => by rw [← he, hp] at h0; cases h0
    obtain ⟨ys, hyl, hY⟩ := C_poke hC p x
    exact ⟨ys, fun ad' h' => by rw [hA] at h'; cases h'; exact ⟨Ar, cr, by rw [World.cell?_setCell_other _ _ _ _ hne, hyl]; exact h0, by omega, by rw [hyl]; exact hY⟩⟩
  obtain ⟨ys, hyl, hys⟩ := pick_list _ n key
  refine ⟨ys, by omega, hyl, hm, fun hn => ?_⟩
  obtain ⟨ad, hA, _⟩ := hc hn
  refine ⟨ad, hA, fun j q hq => ?_⟩
  obtain ⟨Ar, cr, h1, h2, h3⟩ := hys j q hq ad hA
  refine ⟨[.slice Ar q.length cr], rfl, ⟨Ar, cr, rfl, h2, h3⟩, fun i u hu => ?_⟩
  match i, hu with
  | 0, hu =>
    simp at hu
    subst hu
    have e1 : j * (Kd.slice 3 kI).sz + 0 = j := by show j * 1 + 0 = j; omega
    rw [e1]
    exact h1
  | i + 1, hu => simp at hu
/-- One of the windows. -/
theorem spoil4 (h : OwnCfg W base C A1 A8 A9 A10 A11 c1 c8 c9 c10 c11) (i j : Nat) (hi : i < C.f9.length) (hj : j < (C.f9.getD i []).length) : ∃ g gr cr, A9 = some ⟨g, 0, none⟩ ∧ W.cell? ⟨g, i, none⟩ = some (.slice (some ⟨gr, 0, none⟩) (C.f9.getD i []).length cr) ∧ (C.f9.getD i []).length ≤ cr ∧ base ≤ gr ∧ (∃ cells, W.heap[gr]? = some (.cells cells 3 (0, 0))) ∧ (∃ v, W.cell? ⟨gr, j, none⟩ = some v) ∧ W.frozen? ⟨gr, j, none⟩ = false ∧ ∀ x, ∃ l, l.length = C.f9.length ∧ CfgIn (W.setCell ⟨gr, j, none⟩ (.int .i64 x)) { C with f9 := l } A1 A8 A9 A10 A11 c1 c8 c9 c10 c11 := by
  obtain ⟨b, b2, hb, hb2, r1, r8, r9, r10, r11⟩ := h
  obtain ⟨g, cs, v, hA, hg, hok, ⟨cells, hc⟩, hv, hcs, hf, hM, -⟩ := seg1 r9 [] i hi 0 (by decide)
  have e0 : i * (Kd.slice 3 kI).sz + 0 = i := by show i * 1 + 0 = i; omega
  rw [e0] at hv
  generalize hr : C.f9.getD i [] = r at *
  obtain ⟨v1, rfl, hR⟩ := hM
  obtain rfl : v1 = v := by simpa using hcs
  obtain ⟨Ar, cr, rfl⟩ := Kd.R_slice hR
  obtain ⟨gr, cs2, v2, hA2, hg2, hok2, ⟨cells2, hc2⟩, hv2, hcs2, hf2, hM2, -⟩ := seg1 hR 0 j hj 0 (by decide)
  subst hA2
  have e2 : j * kI.sz + 0 = j := by show j * 1 + 0 = j; omega
  rw [e2] at hv2 hf2
  obtain ⟨y, rfl⟩ : ∃ y, v2 = .int .i64 y := by
    have hK : cs2 = [.int .i64 _] := kI.K_of_M hM2
    rw [hK] at hcs2
    simp at hcs2
    exact ⟨_, hcs2.symm⟩
  refine ⟨g, gr, cr, hA, hv, (read_row hR).1, by omega, ⟨cells2, hc2⟩, ⟨_, hv2⟩, hf2, fun x => ?_⟩
  have q1 := Kd.R_keep r1 (kb_set W gr j (.int .i64 x)) (fun k hk => by omega)
  have q8 := R_off r8 hc2 (by decide) j (.int .i64 x)
  have q10 := R_off r10 hc2 (by decide) j (.int .i64 x)
  have q11 := R_offb r11 hok2.1 j (.int .i64 x)
  obtain ⟨l, hl, hC⟩ := C_pokes (read_row r9).2 hv2 x
  exact ⟨l, hl, read_row q1, read_row q8, ⟨by rw [hl]; exact (read_row r9).1, by rw [hl]; exact hC⟩, read_row q10, read_row q11⟩
end
end Go.Proofs.Ytehbabkgaecoaaa
