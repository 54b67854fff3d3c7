/- The numbers that a configuration's bytes tell. -/
import Derived.Test.YtehbabkgaecoaaaEn
import Derived.Laws.EntriesVeiled
namespace Go.Proofs.Ytehbabkgaecoaaa
set_option linter.unusedVariables false
set_option linter.unusedSimpArgs false
open Go.RowKit Go.Shelf Go.Proofs.YtehbabkgaecoaaaW.PrintWords Go.Proofs.YtehbabkgaecoaaaW.PrintLast

/-- What the numbers say of lists: their lengths ahead. -/
def prN (p : S57) : List Int := [p.f0, p.f1, p.f2]
def poN (p : S59) : List Int := [p.f0, p.f1, p.f2, p.f3, p.f4, p.f5]
def liN (l : List Int) : List Int := (l.length : Int) :: l
def lkN (x : S61) : List Int := [x.f0, x.f2] ++ liN x.f1
def cfgNums (C : S29) : List Int :=
  [C.f0, C.f2, C.f3, C.f4, C.f5, C.f6, C.f7] ++ liN C.f1 ++ (C.f8.length : Int) :: C.f8.flatMap prN ++ (C.f9.length : Int) :: C.f9.flatMap liN ++ (C.f10.length : Int) :: C.f10.flatMap poN ++ (C.f11.length : Int) :: C.f11.flatMap lkN
def cfgFine (C : S29) : Bool :=
  decide ((C.f1.length : Int) ≤ 65535) && decide ((C.f8.length : Int) ≤ 65535) && decide ((C.f9.length : Int) ≤ 65535) && C.f9.all (fun l => decide ((l.length : Int) ≤ 65535)) && decide ((C.f10.length : Int) ≤ 65535) && decide ((C.f11.length : Int) ≤ 65535) && C.f11.all (fun x => decide ((x.f1.length : Int) ≤ 65535))
/-- Where the call's own variables stand. -/
def NSt (w : World) (A1 A8 A9 A10 A11 : Option Addr) (c1 c8 c9 c10 c11 : Nat) (C : S29) (CB F O L : Nat) (b : Bool) (v : Value) (l : List Int) (W : World) : Prop :=
  W.heap[F]? = some (Obj.cells #[.bool b] 4) ∧ W.heap[O]? = some (Obj.cells #[v] 23) ∧ W.heap[L]? = some (Obj.cells #[.func (.func 61) #[] #[.pointer (some ⟨F, 0, none⟩), .pointer (some ⟨O, 0, none⟩)]] 80) ∧ W.heap[CB]? = some (Obj.cells #[.int .i64 C.f0, .slice A1 C.f1.length c1, .int .i64 C.f2, .int .i64 C.f3, .int .i64 C.f4, .int .i64 C.f5, .int .i64 C.f6, .int .i64 C.f7, .slice A8 C.f8.length c8, .slice A9 C.f9.length c9, .slice A10 C.f10.length c10, .slice A11 C.f11.length c11] 29) ∧ Kd.R kI 3 W w.heap.size (fun k => k ≠ F ∧ k ≠ O) v l ∧ Below w.heap.size w W ∧ F ≠ O ∧ L ≠ F ∧ L ≠ O ∧ CB ≠ F ∧ CB ≠ O ∧ w.heap.size ≤ F ∧ w.heap.size ≤ O
theorem NSt.next {w : World} (A1 A8 A9 A10 A11 : Option Addr) (c1 c8 c9 c10 c11 : Nat) {C : S29} {CB F O L : Nat} {b b' : Bool} {v v' : Value} {l l' : List Int} {W W' : World} (h : NSt w A1 A8 A9 A10 A11 c1 c8 c9 c10 c11 C CB F O L b v l W) (h1 : W'.heap[F]? = some (Obj.cells #[.bool b'] 4)) (h2 : W'.heap[O]? = some (Obj.cells #[v'] 23)) (h3 : Kd.R kI 3 W' w.heap.size (fun k => k ≠ F ∧ k ≠ O) v' l') (h4 : Below w.heap.size w W') (hk : Keep2 W W' F O v.ownBlock) : NSt w A1 A8 A9 A10 A11 c1 c8 c9 c10 c11 C CB F O L b' v' l' W' := by
  obtain ⟨a1, a2, a3, a4, a5, a6, a7, a8, a9, a10, a11, a12, a13⟩ := h
  exact ⟨h1, h2, hk.blk a3 a8 a9 (Kd.R_ne a5 a3 (by decide)), hk.blk a4 a10 a11 (Kd.R_ne a5 a4 (by decide)), h3, h4, a7, a8, a9, a10, a11, a12, a13⟩
theorem NSt.lead {w : World} (A1 A8 A9 A10 A11 : Option Addr) (c1 c8 c9 c10 c11 : Nat) {C : S29} {CB F O L : Nat} {b : Bool} {v : Value} {l : List Int} {W : World} (h : NSt w A1 A8 A9 A10 A11 c1 c8 c9 c10 c11 C CB F O L b v l W) (n : Int) (hl : (l.length + 1) * 8 ≤ 140737488355328) :
    Calls Try.prog 61 #[.int .i64 n, .pointer (some ⟨F, 0, none⟩), .pointer (some ⟨O, 0, none⟩)] W fun e W' => e = .returned (.tuple #[]) ∧ ∃ v', NSt w A1 A8 A9 A10 A11 c1 c8 c9 c10 c11 C CB F O L (b && decide (n ≤ 65535)) v' (l ++ [n]) W' := by
  have h' := h
  obtain ⟨a1, a2, a3, a4, a5, a6, a7, a8, a9, a10, a11, a12, a13⟩ := h'
  refine (lead_calls n b F O w.heap.size v l _ w W a7 a1 a2 a5 (fun k hk => hk) (fun k hk => ⟨by have := blk_lt a1; omega, by have := blk_lt a2; omega⟩) a12 a13 a6 hl).mono ?_
  rintro e W' ⟨rfl, v', h1, h2, h3, h4, h5, -⟩
  exact ⟨rfl, v', NSt.next _ _ _ _ _ _ _ _ _ _ h h1 h2 h3 h4 h5⟩
theorem NSt.list {w : World} (A1 A8 A9 A10 A11 : Option Addr) (c1 c8 c9 c10 c11 : Nat) {C : S29} {CB F O L : Nat} {b : Bool} {v : Value} {l : List Int} {W : World} (h : NSt w A1 A8 A9 A10 A11 c1 c8 c9 c10 c11 C CB F O L b v l W) (xs : List Int) (A : Option Addr) (c : Nat) (hX : Kd.C kI w A xs.length xs) (hl : (l.length + 1 + xs.length) * 8 ≤ 140737488355328) :
    Calls Try.prog 62 #[.slice A xs.length c, .pointer (some ⟨L, 0, none⟩), .pointer (some ⟨O, 0, none⟩)] W fun e W' => e = .returned (.tuple #[]) ∧ ∃ v', NSt w A1 A8 A9 A10 A11 c1 c8 c9 c10 c11 C CB F O L (b && decide ((xs.length : Int) ≤ 65535)) v' (l ++ liN xs) W' := by
  have h' := h
  obtain ⟨a1, a2, a3, a4, a5, a6, a7, a8, a9, a10, a11, a12, a13⟩ := h'
  refine (list_calls xs A c b F O L v l _ w W a7 a8 a9 a1 a2 a3 a5 (fun k hk => hk) (fun k hk => ⟨by have := blk_lt a1; omega, by have := blk_lt a2; omega⟩) a12 a13 a6 hX hl).mono ?_
  rintro e W' ⟨rfl, v', h1, h2, h3, h4, h5, -⟩
  exact ⟨rfl, v', NSt.next _ _ _ _ _ _ _ _ _ _ h h1 h2 h3 h4 h5⟩
theorem R_ints (X : World) (xs : List Int) (base : Nat) (ok : Nat → Prop) (hb : base ≤ X.heap.size) (hok : ok X.heap.size) (hm : xs.length ≤ 9223372036854775807) : Kd.R kI 3 (X.alloc (.cells (xs.map (Value.int .i64)).toArray 3)) base ok (.slice (some ⟨X.heap.size, 0, none⟩) xs.length xs.length) xs := by
  refine ⟨fun k hk => ?_, OwnRow.lit X base (Kd.reps_scalar xs) hb hm⟩
  have : X.heap.size = k := by simpa [Value.ownBlock] using hk
  subst this
  exact hok
def NW0 (w : World) (A1 A8 A9 A10 A11 : Option Addr) (c1 c8 c9 c10 c11 : Nat) (C : S29) : World := ((((w.alloc (Obj.cells #[.int .i64 C.f0, .slice A1 C.f1.length c1, .int .i64 C.f2, .int .i64 C.f3, .int .i64 C.f4, .int .i64 C.f5, .int .i64 C.f6, .int .i64 C.f7, .slice A8 C.f8.length c8, .slice A9 C.f9.length c9, .slice A10 C.f10.length c10, .slice A11 C.f11.length c11] 29)).alloc (Obj.cells #[.bool true] 4)).alloc (.cells #[.int .i64 C.f0, .int .i64 C.f2, .int .i64 C.f3, .int .i64 C.f4, .int .i64 C.f5, .int .i64 C.f6, .int .i64 C.f7] 3)).alloc (Obj.cells #[.slice (some ⟨w.heap.size + 1 + 1, 0, none⟩) 7 7] 23)).alloc (Obj.cells #[.func (.func 61) #[] #[.pointer (some ⟨w.heap.size + 1, 0, none⟩), .pointer (some ⟨w.heap.size + 1 + 1 + 1, 0, none⟩)]] 80)
theorem NSt.start (w : World) (A1 A8 A9 A10 A11 : Option Addr) (c1 c8 c9 c10 c11 : Nat) (C : S29) : NSt w A1 A8 A9 A10 A11 c1 c8 c9 c10 c11 C w.heap.size (w.heap.size + 1) (w.heap.size + 1 + 1 + 1) (w.heap.size + 1 + 1 + 1 + 1) true (.slice (some ⟨w.heap.size + 1 + 1, 0, none⟩) 7 7) [C.f0, C.f2, C.f3, C.f4, C.f5, C.f6, C.f7] (NW0 w A1 A8 A9 A10 A11 c1 c8 c9 c10 c11 C) := by
  unfold NW0
  have b1 := blk_new w (o := (Obj.cells #[.int .i64 C.f0, .slice A1 C.f1.length c1, .int .i64 C.f2, .int .i64 C.f3, .int .i64 C.f4, .int .i64 C.f5, .int .i64 C.f6, .int .i64 C.f7, .slice A8 C.f8.length c8, .slice A9 C.f9.length c9, .slice A10 C.f10.length c10, .slice A11 C.f11.length c11] 29))
  have b2 := blk_new (w.alloc (Obj.cells #[.int .i64 C.f0, .slice A1 C.f1.length c1, .int .i64 C.f2, .int .i64 C.f3, .int .i64 C.f4, .int .i64 C.f5, .int .i64 C.f6, .int .i64 C.f7, .slice A8 C.f8.length c8, .slice A9 C.f9.length c9, .slice A10 C.f10.length c10, .slice A11 C.f11.length c11] 29)) (o := (Obj.cells #[.bool true] 4))
  have b4 := blk_new (((w.alloc (Obj.cells #[.int .i64 C.f0, .slice A1 C.f1.length c1, .int .i64 C.f2, .int .i64 C.f3, .int .i64 C.f4, .int .i64 C.f5, .int .i64 C.f6, .int .i64 C.f7, .slice A8 C.f8.length c8, .slice A9 C.f9.length c9, .slice A10 C.f10.length c10, .slice A11 C.f11.length c11] 29)).alloc (Obj.cells #[.bool true] 4)).alloc (.cells #[.int .i64 C.f0, .int .i64 C.f2, .int .i64 C.f3, .int .i64 C.f4, .int .i64 C.f5, .int .i64 C.f6, .int .i64 C.f7] 3)) (o := (Obj.cells #[.slice (some ⟨w.heap.size + 1 + 1, 0, none⟩) 7 7] 23))
  have b5 := blk_new ((((w.alloc (Obj.cells #[.int .i64 C.f0, .slice A1 C.f1.length c1, .int .i64 C.f2, .int .i64 C.f3, .int .i64 C.f4, .int .i64 C.f5, .int .i64 C.f6, .int .i64 C.f7, .slice A8 C.f8.length c8, .slice A9 C.f9.length c9, .slice A10 C.f10.length c10, .slice A11 C.f11.length c11] 29)).alloc (Obj.cells #[.bool true] 4)).alloc (.cells #[.int .i64 C.f0, .int .i64 C.f2, .int .i64 C.f3, .int .i64 C.f4, .int .i64 C.f5, .int .i64 C.f6, .int .i64 C.f7] 3)).alloc (Obj.cells #[.slice (some ⟨w.heap.size + 1 + 1, 0, none⟩) 7 7] 23)) (o := Obj.cells #[.func (.func 61) #[] #[.pointer (some ⟨w.heap.size + 1, 0, none⟩), .pointer (some ⟨w.heap.size + 1 + 1 + 1, 0, none⟩)]] 80)
  have r := R_ints ((w.alloc (Obj.cells #[.int .i64 C.f0, .slice A1 C.f1.length c1, .int .i64 C.f2, .int .i64 C.f3, .int .i64 C.f4, .int .i64 C.f5, .int .i64 C.f6, .int .i64 C.f7, .slice A8 C.f8.length c8, .slice A9 C.f9.length c9, .slice A10 C.f10.length c10, .slice A11 C.f11.length c11] 29)).alloc (Obj.cells #[.bool true] 4)) [C.f0, C.f2, C.f3, C.f4, C.f5, C.f6, C.f7] w.heap.size (fun k => k ≠ w.heap.size + 1 ∧ k ≠ w.heap.size + 1 + 1 + 1) (by simp [World.size_alloc]; omega) (by simp [World.size_alloc]) (by simp)
  simp only [World.size_alloc] at b2 b4 b5 r
  exact ⟨blk_alloc (blk_alloc (blk_alloc b2 _) _) _, blk_alloc b4 _, b5, blk_alloc (blk_alloc (blk_alloc (blk_alloc b1 _) _) _) _, Kd.R_alloc (Kd.R_alloc r _) _, (((((Below.refl _ _).alloc (Nat.le_refl _) _).alloc (by simp) _).alloc (by simp; omega) _).alloc (by simp; omega) _).alloc (by simp; omega) _, by omega, by omega, by omega, by omega, by omega, by omega, by omega⟩
theorem NSt.app {ops : Array Oper} {rest : List Oper} {o : Oper} {a : Act} {Q : Exit → Act → World → Prop} {w : World} (A1 A8 A9 A10 A11 : Option Addr) (c1 c8 c9 c10 c11 : Nat) {C : S29} {CB F O L : Nat} {b : Bool} {v : Value} {l : List Int} {W : World} (h : NSt w A1 A8 A9 A10 A11 c1 c8 c9 c10 c11 C CB F O L b v l W) (xs : List Int) (s x : Operand) (hgd : o.guard = none)
    (ho : o.op = .call { callee := .builtin .append, args := #[s, x], argTypes := #[23, 23] }) (hs : a.eval s = v) (hx : a.eval x = .slice (some ⟨W.heap.size, 0, none⟩) xs.length xs.length) {cs : Array Value} (hcs : cs = (xs.map (Value.int .i64)).toArray) (hl : (l.length + xs.length) * 8 ≤ 140737488355328)
    (hK : ∀ A5 k5 W5, W5.cell? ⟨O, 0, none⟩ = some v → W5.frozen? ⟨O, 0, none⟩ = false → (∀ (g : Nat) (cells : Array Value) (t : TypeId), W.heap[g]? = some (.cells cells t (0, 0)) → 3 ≠ t → W5.heap[g]? = some (.cells cells t (0, 0))) → NSt w A1 A8 A9 A10 A11 c1 c8 c9 c10 c11 C CB F O L b (.slice A5 (l.length + xs.length) k5) (l ++ xs) (W5.setCell ⟨O, 0, none⟩ (.slice A5 (l.length + xs.length) k5)) → wpList Try.prog ops Q rest (a.put o.dst (.slice A5 (l.length + xs.length) k5)) W5) :
    wpList Try.prog ops Q (o :: rest) a (W.alloc (.cells cs 3)) := by
  subst hcs
  obtain ⟨a1, a2, a3, a4, a5, a6, a7, a8, a9, a10, a11, a12, a13⟩ := h
  have hr : Kd.R kI 3 (W.alloc (.cells (xs.map (Value.int .i64)).toArray 3)) W.heap.size (fun _ => True) (.slice (some ⟨W.heap.size, 0, none⟩) xs.length xs.length) xs := R_ints W xs _ _ (Nat.le_refl _) trivial (by omega)
  have hc : Kd.C kI (W.alloc (.cells (xs.map (Value.int .i64)).toArray 3)) (some ⟨W.heap.size, 0, none⟩) xs.length xs := by
    obtain ⟨A, c, e, -, hc⟩ := Kd.R_reads hr
    cases e
    exact hc
  have a5' := Kd.R_alloc a5 (.cells (xs.map (Value.int .i64)).toArray 3)
  have l1 := blk_lt a1
  have l2 := blk_lt a2
  refine Kd.R_append_rows kI (Rr := kI.K (W.alloc (.cells (xs.map (Value.int .i64)).toArray 3))) (w0 := w) w.heap.size hgd s x 23 3 (.int .i64 0) 8 ho Try.underlying23 info3 rfl (by decide) (by omega) v l xs _ xs.length xs.length (fun k => k ≠ F ∧ k ≠ O) (fun _ => False) hs hx a5' hc (fun x cs hk => hk) (fun _ hk => hk.elim) (fun k hk => by rw [World.size_alloc] at hk; exact ⟨by omega, by omega⟩) (a6.alloc a6.size _) (by rw [World.size_alloc]; have := a6.size; omega) hl ?_
  intro v5 W5 ho5 hb5 hg5 _
  obtain ⟨A5, k5, hv5⟩ := Kd.R_slice ho5
  rw [List.length_append] at hv5
  subst hv5
  have hF5 := blk_grown (blk_alloc a1 _) hg5 (Kd.R_ne a5' (blk_alloc a1 _) (by decide))
  have hO5 := blk_grown (blk_alloc a2 _) hg5 (Kd.R_ne a5' (blk_alloc a2 _) (by decide))
  have hL5 := blk_grown (blk_alloc a3 _) hg5 (Kd.R_ne a5' (blk_alloc a3 _) (by decide))
  have hC5 := blk_grown (blk_alloc a4 _) hg5 (Kd.R_ne a5' (blk_alloc a4 _) (by decide))
  exact hK A5 k5 W5 (blk_cell hO5 0) (blk_frozen hO5 0) (fun g cells t hb ht => blk_grown (blk_alloc hb _) hg5 (Kd.R_ne a5' (blk_alloc hb _) ht)) ⟨blk_far hF5 (p := ⟨O, 0, none⟩) a7 _, blk_set hO5 0 _, blk_far hL5 (p := ⟨O, 0, none⟩) a9 _, blk_far hC5 (p := ⟨O, 0, none⟩) a11 _, Kd.R_far ho5 (p := ⟨O, 0, none⟩) (fun k hk => hk.2) _, hb5.setCell (p := ⟨O, 0, none⟩) a13 _, a7, a8, a9, a10, a11, a12, a13⟩
theorem fm_le {α : Type} (f : α → List Int) {l : List α} {k : Nat} {x : α} (h : l[k]? = some x) : ((l.take k).flatMap f).length + (f x).length ≤ (l.flatMap f).length := by
  have e : l.flatMap f = (l.take (k + 1)).flatMap f ++ (l.drop (k + 1)).flatMap f := by rw [← List.flatMap_append, List.take_append_drop]
  rw [e, List.length_append, List.take_add_one, h, List.flatMap_append, List.length_append]
  simp
theorem cn_len (C : S29) : (cfgNums C).length = 7 + (C.f1.length + 1) + (1 + (C.f8.flatMap prN).length) + (1 + (C.f9.flatMap liN).length) + (1 + (C.f10.flatMap poN).length) + (1 + (C.f11.flatMap lkN).length) := by
  simp only [cfgNums, liN, List.length_append, List.length_cons, List.length_nil]
  omega
theorem NSt.alloc {w : World} (A1 A8 A9 A10 A11 : Option Addr) (c1 c8 c9 c10 c11 : Nat) {C : S29} {CB F O L : Nat} {b : Bool} {v : Value} {l : List Int} {W : World} (h : NSt w A1 A8 A9 A10 A11 c1 c8 c9 c10 c11 C CB F O L b v l W) (o : Obj) : NSt w A1 A8 A9 A10 A11 c1 c8 c9 c10 c11 C CB F O L b v l (W.alloc o) := by
  obtain ⟨a1, a2, a3, a4, a5, a6, a7, a8, a9, a10, a11, a12, a13⟩ := h
  exact ⟨blk_alloc a1 _, blk_alloc a2 _, blk_alloc a3 _, blk_alloc a4 _, Kd.R_alloc a5 _, a6.alloc a6.size _, a7, a8, a9, a10, a11, a12, a13⟩
set_option maxRecDepth 100000 in
set_option maxHeartbeats 32000000 in
theorem numbers_calls (A1 A8 A9 A10 A11 : Option Addr) (c1 c8 c9 c10 c11 : Nat) (C : S29) (w : World) (h : CfgIn w C A1 A8 A9 A10 A11 c1 c8 c9 c10 c11) (hT : (cfgNums C).length * 8 ≤ 140737488355328) :
    Calls Try.prog 48 #[.agg #[.int .i64 C.f0, .slice A1 C.f1.length c1, .int .i64 C.f2, .int .i64 C.f3, .int .i64 C.f4, .int .i64 C.f5, .int .i64 C.f6, .int .i64 C.f7, .slice A8 C.f8.length c8, .slice A9 C.f9.length c9, .slice A10 C.f10.length c10, .slice A11 C.f11.length c11]] w fun e w' => ∃ v, e = .returned (.tuple #[v, .bool (cfgFine C)]) ∧ Kd.R kI 3 w' w.heap.size (fun _ => True) v (cfgNums C) ∧ Below w.heap.size w w' := by
  have HR := Lib.hid h
  have HT := Lib.hid hT
  obtain ⟨l1, l8, l9, l10, l11⟩ := h.len
  clear h hT
  go_enter Try.func48, Try.ntmps48
  go_wp2_with fail
  have HS := Lib.hid (NSt.start w A1 A8 A9 A10 A11 c1 c8 c9 c10 c11 C)
  change Calls _ _ _ (NW0 w A1 A8 A9 A10 A11 c1 c8 c9 c10 c11 C) _
  generalize hW0 : NW0 w A1 A8 A9 A10 A11 c1 c8 c9 c10 c11 C = W0 at *
  clear hW0
  refine (NSt.list _ _ _ _ _ _ _ _ _ _ HS.out C.f1 A1 c1 HR.out.1.2 (by have h := HT.out; rw [cn_len] at h; simp only [List.length_append, List.length_cons, List.length_nil, liN]; omega)).mono ?_
  rintro e W1 ⟨rfl, v1, h1⟩
  have H1 := Lib.hid h1
  have k8 := (cfg_cells h1.2.2.2.1).2.2.2.2.2.2.2.2.1
  have kL := blk_cell h1.2.2.1 0
  clear h1 HS
  go_wp2_with fail
  refine (NSt.lead _ _ _ _ _ _ _ _ _ _ H1.out (C.f8.length : Int) (by have h := HT.out; rw [cn_len] at h; simp only [List.length_append, List.length_cons, List.length_nil, liN]; omega)).mono ?_
  rintro e W2 ⟨rfl, v2, h2⟩
  have H2 := Lib.hid h2
  have k8 := (cfg_cells h2.2.2.2.1).2.2.2.2.2.2.2.2.1
  clear h2 H1
  go_wp2_with fail
  go_loopw [45] (fun i wr => ∃ (k : Nat) (v : Value), k ≤ C.f8.length ∧ i = .int .i64 k ∧ Hid (NSt w A1 A8 A9 A10 A11 c1 c8 c9 c10 c11 C w.heap.size (w.heap.size + 1) (w.heap.size + 1 + 1 + 1) (w.heap.size + 1 + 1 + 1 + 1) (true && decide ((C.f1.length : Int) ≤ 65535) && decide ((C.f8.length : Int) ≤ 65535)) v ([C.f0, C.f2, C.f3, C.f4, C.f5, C.f6, C.f7] ++ liN C.f1 ++ [(C.f8.length : Int)] ++ (C.f8.take k).flatMap prN) wr)) (fun i _ => C.f8.length - (intOf i).toNat)
  case atStart => exact ⟨0, v2, by omega, rfl, Lib.hid (by simpa using H2.out)⟩
  case round =>
    obtain ⟨k, v, hk, rfl, HS⟩ := hrel
    by_cases hlt : k < C.f8.length
    · obtain ⟨ad, p, e8, p0, p1, p2, HP⟩ := at_P (HR.out.below HS.out.2.2.2.2.2.1).2.1.2 k hlt
      cases e8
      have HSA := Lib.hid (NSt.alloc _ _ _ _ _ _ _ _ _ _ HS.out (Obj.cells #[.int .i64 p.f0, .int .i64 p.f1, .int .i64 p.f2] 57))
      have c0 := blk_cell HSA.out.2.1 0
      go_wp2_with (first | ((with_reducible refine gate_z (b := .append) (xs := #[.tmp 49, .tmp 56]) rfl ?_); at_builtin; refine NSt.app _ _ _ _ _ _ _ _ _ _ HSA.out [p.f0, p.f1, p.f2] (.tmp 49) (.tmp 56) rfl rfl rfl (by rw [World.size_alloc]; rfl) rfl (by have h := HT.out; rw [cn_len] at h; have h2 := fm_le prN HP.out; simp only [List.length_append, List.length_cons, List.length_nil, liN, prN] at h2 ⊢; omega) ?_; intro A5 k5 W5 c5 f5 hk5 h5; have H5 := Lib.hid h5; clear h5 c0 hk5))
      go_roundw
      case rel => exact ⟨k + 1, _, by omega, by go_num, Lib.hid (by rw [List.take_add_one, HP.out, List.flatMap_append, ← List.append_assoc]; simpa [prN] using H5.out)⟩
      case measure => simp [intOf]; omega
    · have hfull : C.f8.take k = C.f8 := List.take_of_length_le (by omega)
      rw [hfull] at HS
      have H3 := Lib.hid HS.out
      have k9 := (cfg_cells H3.out.2.2.2.1).2.2.2.2.2.2.2.2.2.1
      have kL := blk_cell H3.out.2.2.1 0
      go_wp2_with fail
      refine (NSt.lead _ _ _ _ _ _ _ _ _ _ H3.out (C.f9.length : Int) (by have h := HT.out; rw [cn_len] at h; simp only [List.length_append, List.length_cons, List.length_nil, liN]; omega)).mono ?_
      rintro e W4 ⟨rfl, v4, h4⟩
      have H4 := Lib.hid h4
      have k9 := (cfg_cells h4.2.2.2.1).2.2.2.2.2.2.2.2.2.1
      clear h4 H3 HS kL hk hlt hfull
      go_wp2_with fail
      go_loopw [67] (fun i wr => ∃ (k : Nat) (v : Value), k ≤ C.f9.length ∧ i = .int .i64 k ∧ Hid (NSt w A1 A8 A9 A10 A11 c1 c8 c9 c10 c11 C w.heap.size (w.heap.size + 1) (w.heap.size + 1 + 1 + 1) (w.heap.size + 1 + 1 + 1 + 1) (true && decide ((C.f1.length : Int) ≤ 65535) && decide ((C.f8.length : Int) ≤ 65535) && decide ((C.f9.length : Int) ≤ 65535) && (C.f9.take k).all (fun l => decide ((l.length : Int) ≤ 65535))) v ([C.f0, C.f2, C.f3, C.f4, C.f5, C.f6, C.f7] ++ liN C.f1 ++ [(C.f8.length : Int)] ++ C.f8.flatMap prN ++ [(C.f9.length : Int)] ++ (C.f9.take k).flatMap liN) wr)) (fun i _ => C.f9.length - (intOf i).toNat)
      case atStart => exact ⟨0, v4, by omega, rfl, Lib.hid (by simpa using H4.out)⟩
      case round =>
        obtain ⟨k, v, hk, rfl, HS⟩ := hrel
        by_cases hlt : k < C.f9.length
        · obtain ⟨ad, r, Ar, cr, e9, hc0, hrc, HRR, HV⟩ := at_W HR.out.2.2.1.2 k hlt
          cases e9
          have hc := (HS.out.2.2.2.2.2.1.cell (World.block_lt_of_cell? _ _ hc0)).trans hc0
          clear hc0
          go_wp2_with fail
          refine (NSt.list _ _ _ _ _ _ _ _ _ _ HS.out r Ar cr HRR.out (by have h := HT.out; rw [cn_len] at h; have h2 := fm_le liN HV.out; simp only [List.length_append, List.length_cons, List.length_nil, liN, liN] at h2 ⊢; omega)).mono ?_
          rintro e W5 ⟨rfl, v5, h5⟩
          have H5 := Lib.hid h5
          clear h5 hc
          go_wp2_with fail
          go_roundw
          case rel => exact ⟨k + 1, v5, by omega, by go_num, Lib.hid (by rw [List.take_add_one, HV.out, List.flatMap_append, ← List.append_assoc, List.all_append, ← Bool.and_assoc]; simpa using H5.out)⟩
          case measure => simp [intOf]; omega
        · have hfull : C.f9.take k = C.f9 := List.take_of_length_le (by omega)
          rw [hfull] at HS
          have H5 := Lib.hid HS.out
          have k10 := (cfg_cells H5.out.2.2.2.1).2.2.2.2.2.2.2.2.2.2.1
          have kL := blk_cell H5.out.2.2.1 0
          go_wp2_with fail
          refine (NSt.lead _ _ _ _ _ _ _ _ _ _ H5.out (C.f10.length : Int) (by have h := HT.out; rw [cn_len] at h; simp only [List.length_append, List.length_cons, List.length_nil, liN]; omega)).mono ?_
          rintro e W6 ⟨rfl, v6, h6⟩
          have H6 := Lib.hid h6
          have k10 := (cfg_cells h6.2.2.2.1).2.2.2.2.2.2.2.2.2.2.1
          clear h6 H5 HS kL hk hlt hfull
          go_wp2_with fail
          go_loopw [83] (fun i wr => ∃ (k : Nat) (v : Value), k ≤ C.f10.length ∧ i = .int .i64 k ∧ Hid (NSt w A1 A8 A9 A10 A11 c1 c8 c9 c10 c11 C w.heap.size (w.heap.size + 1) (w.heap.size + 1 + 1 + 1) (w.heap.size + 1 + 1 + 1 + 1) (true && decide ((C.f1.length : Int) ≤ 65535) && decide ((C.f8.length : Int) ≤ 65535) && decide ((C.f9.length : Int) ≤ 65535) && C.f9.all (fun l => decide ((l.length : Int) ≤ 65535)) && decide ((C.f10.length : Int) ≤ 65535)) v ([C.f0, C.f2, C.f3, C.f4, C.f5, C.f6, C.f7] ++ liN C.f1 ++ [(C.f8.length : Int)] ++ C.f8.flatMap prN ++ [(C.f9.length : Int)] ++ C.f9.flatMap liN ++ [(C.f10.length : Int)] ++ (C.f10.take k).flatMap poN) wr)) (fun i _ => C.f10.length - (intOf i).toNat)
          case atStart => exact ⟨0, v6, by omega, rfl, Lib.hid (by simpa using H6.out)⟩
          case round =>
            obtain ⟨k, v, hk, rfl, HS⟩ := hrel
            by_cases hlt : k < C.f10.length
            · obtain ⟨ad, q, e10, q0, q1, q2, q3, q4, q5, HQ⟩ := at_Q (HR.out.below HS.out.2.2.2.2.2.1).2.2.2.1.2 k hlt
              cases e10
              have HSA := Lib.hid (NSt.alloc _ _ _ _ _ _ _ _ _ _ HS.out (Obj.cells #[.int .i64 q.f0, .int .i64 q.f1, .int .i64 q.f2, .int .i64 q.f3, .int .i64 q.f4, .int .i64 q.f5] 59))
              have c0 := blk_cell HSA.out.2.1 0
              go_wp2_with (first | ((with_reducible refine gate_z (b := .append) (xs := #[.tmp 87, .tmp 100]) rfl ?_); at_builtin; refine NSt.app _ _ _ _ _ _ _ _ _ _ HSA.out [q.f0, q.f1, q.f2, q.f3, q.f4, q.f5] (.tmp 87) (.tmp 100) rfl rfl rfl (by rw [World.size_alloc]; rfl) rfl (by have h := HT.out; rw [cn_len] at h; have h2 := fm_le poN HQ.out; simp only [List.length_append, List.length_cons, List.length_nil, liN, poN] at h2 ⊢; omega) ?_; intro A5 k5 W5 c5 f5 hk5 h5; have H5 := Lib.hid h5; clear h5 c0 hk5))
              go_roundw
              case rel => exact ⟨k + 1, _, by omega, by go_num, Lib.hid (by rw [List.take_add_one, HQ.out, List.flatMap_append, ← List.append_assoc]; simpa [poN] using H5.out)⟩
              case measure => simp [intOf]; omega
            · have hfull : C.f10.take k = C.f10 := List.take_of_length_le (by omega)
              rw [hfull] at HS
              have H7 := Lib.hid HS.out
              have k11 := (cfg_cells H7.out.2.2.2.1).2.2.2.2.2.2.2.2.2.2.2
              have kL := blk_cell H7.out.2.2.1 0
              go_wp2_with fail
              refine (NSt.lead _ _ _ _ _ _ _ _ _ _ H7.out (C.f11.length : Int) (by have h := HT.out; rw [cn_len] at h; simp only [List.length_append, List.length_cons, List.length_nil, liN]; omega)).mono ?_
              rintro e W8 ⟨rfl, v8, h8⟩
              have H8 := Lib.hid h8
              have k11 := (cfg_cells h8.2.2.2.1).2.2.2.2.2.2.2.2.2.2.2
              clear h8 H7 HS kL hk hlt hfull
              go_wp2_with fail
              go_loopw [111] (fun i wr => ∃ (k : Nat) (v : Value), k ≤ C.f11.length ∧ i = .int .i64 k ∧ Hid (NSt w A1 A8 A9 A10 A11 c1 c8 c9 c10 c11 C w.heap.size (w.heap.size + 1) (w.heap.size + 1 + 1 + 1) (w.heap.size + 1 + 1 + 1 + 1) (true && decide ((C.f1.length : Int) ≤ 65535) && decide ((C.f8.length : Int) ≤ 65535) && decide ((C.f9.length : Int) ≤ 65535) && C.f9.all (fun l => decide ((l.length : Int) ≤ 65535)) && decide ((C.f10.length : Int) ≤ 65535) && decide ((C.f11.length : Int) ≤ 65535) && (C.f11.take k).all (fun x => decide ((x.f1.length : Int) ≤ 65535))) v ([C.f0, C.f2, C.f3, C.f4, C.f5, C.f6, C.f7] ++ liN C.f1 ++ [(C.f8.length : Int)] ++ C.f8.flatMap prN ++ [(C.f9.length : Int)] ++ C.f9.flatMap liN ++ [(C.f10.length : Int)] ++ C.f10.flatMap poN ++ [(C.f11.length : Int)] ++ (C.f11.take k).flatMap lkN) wr)) (fun i _ => C.f11.length - (intOf i).toNat)
              case atStart => exact ⟨0, v8, by omega, rfl, Lib.hid (by simpa using H8.out)⟩
              case round =>
                obtain ⟨k, v, hk, rfl, HS⟩ := hrel
                by_cases hlt : k < C.f11.length
                · obtain ⟨ad, x, Ax, cx, e11, X0, X1, X2, hcx, HXR, HX⟩ := at_K HR.out.2.2.2.2.2 k hlt
                  cases e11
                  have x0 := (HS.out.2.2.2.2.2.1.cell (World.block_lt_of_cell? _ _ X0)).trans X0
                  have x1 := (HS.out.2.2.2.2.2.1.cell (World.block_lt_of_cell? _ _ X1)).trans X1
                  have x2 := (HS.out.2.2.2.2.2.1.cell (World.block_lt_of_cell? _ _ X2)).trans X2
                  clear X0 X1 X2
                  have HSA := Lib.hid (NSt.alloc _ _ _ _ _ _ _ _ _ _ HS.out (Obj.cells #[.int .i64 x.f0, .slice Ax x.f1.length cx, .int .i64 x.f2] 61))
                  have HXB := Lib.hid (blk_new wr (o := (Obj.cells #[.int .i64 x.f0, .slice Ax x.f1.length cx, .int .i64 x.f2] 61)))
                  have hne1 : wr.heap.size ≠ w.heap.size + 1 + 1 + 1 := by have := blk_lt HS.out.2.1; omega
                  have hne2 : wr.heap.size ≠ w.heap.size + 1 := by have := blk_lt HS.out.1; omega
                  have HNE := Lib.hid (And.intro hne1 hne2)
                  clear hne1 hne2
                  obtain ⟨l0, hl0⟩ : ∃ l0, l0 = [C.f0, C.f2, C.f3, C.f4, C.f5, C.f6, C.f7] ++ liN C.f1 ++ [(C.f8.length : Int)] ++ C.f8.flatMap prN ++ [(C.f9.length : Int)] ++ C.f9.flatMap liN ++ [(C.f10.length : Int)] ++ C.f10.flatMap poN ++ [(C.f11.length : Int)] ++ (C.f11.take k).flatMap lkN := ⟨_, rfl⟩
                  rw [← hl0] at HSA
                  have HL0 := Lib.hid hl0
                  clear hl0
                  have c0 := blk_cell HSA.out.2.1 0
                  go_wp2_with (first | ((with_reducible refine gate_z (b := .append) (xs := #[.tmp 115, .tmp 120]) rfl ?_); at_builtin; refine NSt.app _ _ _ _ _ _ _ _ _ _ HSA.out [x.f0, x.f2] (.tmp 115) (.tmp 120) rfl rfl rfl (by rw [World.size_alloc]; rfl) rfl (by have h := HT.out; rw [cn_len] at h; have h2 := fm_le lkN HX.out; rw [HL0.out]; simp only [List.length_append, List.length_cons, List.length_nil, liN, lkN] at h2 ⊢; omega) ?_; intro A5 k5 W5 c5 f5 hk5 h5; have H5 := Lib.hid h5; have x15 := blk_cell (blk_far (hk5 _ _ _ HXB.out (by decide)) (p := ⟨w.heap.size + 1 + 1 + 1, 0, none⟩) HNE.out.1 (.slice A5 (l0.length + 2) k5)) 1; clear h5 c0 hk5))
                  refine (NSt.list _ _ _ _ _ _ _ _ _ _ H5.out x.f1 Ax cx HXR.out (by have h := HT.out; rw [cn_len] at h; have h2 := fm_le lkN HX.out; rw [HL0.out]; simp only [List.length_append, List.length_cons, List.length_nil, liN, lkN] at h2 ⊢; omega)).mono ?_
                  rintro e W6 ⟨rfl, v6, h6⟩
                  rw [HL0.out] at h6
                  have H6 := Lib.hid h6
                  clear h6 x0 x1 x2 x15
                  go_wp2_with fail
                  go_roundw
                  case rel => exact ⟨k + 1, v6, by omega, by go_num, Lib.hid (by rw [List.take_add_one, HX.out, List.flatMap_append, ← List.append_assoc, List.all_append, ← Bool.and_assoc]; simpa [lkN] using H6.out)⟩
                  case measure => simp [intOf]; omega
                · have hfull : C.f11.take k = C.f11 := List.take_of_length_le (by omega)
                  rw [hfull] at HS
                  have H9 := Lib.hid HS.out
                  have cO := blk_cell H9.out.2.1 0
                  have cF := blk_cell H9.out.1 0
                  clear HS hfull
                  go_wp2_with fail
                  go_quiet (fail)
                  go_wp2_with fail
                  go_ret2
                  refine ⟨v, rfl, ?_, pw_below_drewN H9.out.2.2.2.2.2.1 _⟩
                  have e : cfgNums C = [C.f0, C.f2, C.f3, C.f4, C.f5, C.f6, C.f7] ++ liN C.f1 ++ [(C.f8.length : Int)] ++ C.f8.flatMap prN ++ [(C.f9.length : Int)] ++ C.f9.flatMap liN ++ [(C.f10.length : Int)] ++ C.f10.flatMap poN ++ [(C.f11.length : Int)] ++ C.f11.flatMap lkN := by simp [cfgNums]
                  rw [e]
                  exact Kd.R_mono (Kd.R_drewN H9.out.2.2.2.2.1 _) (fun _ _ => trivial)
end Go.Proofs.Ytehbabkgaecoaaa
