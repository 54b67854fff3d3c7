/- The document's Decode. -/
import Derived.Test.YtehbabkgaecoaaaQB
import Derived.Great.BuildSlice
namespace Go.Proofs.Ytehbabkgaecoaaa
set_option linter.unusedVariables false
set_option linter.unusedSimpArgs false
open Go.RowKit Go.Shelf Go.Proofs.YtehbabkgaecoaaaW.PrintWords Go.Proofs.YtehbabkgaecoaaaW.PrintLast

theorem KpX.setNew {X : Nat} {W V : World} (h : KpX X W V) {b : Nat} (hb : W.heap.size ≤ b) (j : Nat) (u : Value) : KpX X W (V.setCell ⟨b, j, none⟩ u) :=
  ⟨by rw [World.size_setCell]; exact h.1, fun i hi hx => by rw [Below.heap_setCell V ⟨b, j, none⟩ u i (by show i ≠ b; omega)]; exact h.2 i hi hx⟩
/-- The reader's box and the configuration's aside, what lay lies as it lay. -/
def Mb (w S V : World) : Prop := S.heap.size ≤ V.heap.size ∧ ∀ i, i < S.heap.size → i ≠ w.heap.size + 1 → i ≠ w.heap.size + 1 + 1 → V.heap[i]? = S.heap[i]?
theorem Mb.refl (w S : World) : Mb w S S := ⟨Nat.le_refl _, fun _ _ _ _ => rfl⟩
theorem Mb.kpx {w S V U : World} (h : Mb w S V) (k : KpX (w.heap.size + 1) V U) : Mb w S U := ⟨Nat.le_trans h.1 k.1, fun i hi h1 h2 => (k.2 i (Nat.lt_of_lt_of_le hi h.1) h1).trans (h.2 i hi h1 h2)⟩
theorem Mb.below {w S V U : World} (h : Mb w S V) (hb : Below S.heap.size V U) : Mb w S U := ⟨Nat.le_trans h.1 hb.size, fun i hi h1 h2 => (hb.block i hi).trans (h.2 i hi h1 h2)⟩
theorem Mb.set {w S V : World} (h : Mb w S V) (j : Nat) (u : Value) : Mb w S (V.setCell ⟨w.heap.size + 1 + 1, j, none⟩ u) :=
  ⟨by rw [World.size_setCell]; exact h.1, fun i hi h1 h2 => by rw [Below.heap_setCell V ⟨w.heap.size + 1 + 1, j, none⟩ u i h2]; exact h.2 i hi h1 h2⟩
theorem R_mb {α : Type} {d : Kd α} {e base : Nat} {ok : Nat → Prop} {v : Value} {xs : List α} {w S V : World} (h : Kd.R d e S base ok v xs) (m : Mb w S V) (hb : w.heap.size + 3 ≤ base) : Kd.R d e V base ok v xs :=
  Kd.R_mono (Kd.R_step (Kd.R_bound h) (fun i hi hlt => m.2 i hlt (by have := hi.2.1; omega) (by have := hi.2.1; omega))) (fun _ hk => hk.1)
theorem R_farC {α : Type} {d : Kd α} {e base : Nat} {ok : Nat → Prop} {v : Value} {xs : List α} {V : World} {g : Nat} (h : Kd.R d e V base ok v xs) (hg : g < base) (j : Nat) (u : Value) : Kd.R d e (V.setCell ⟨g, j, none⟩ u) base ok v xs :=
  Kd.R_mono (Kd.R_far (Kd.R_bound h) (p := ⟨g, j, none⟩) (fun k hk he => by have he' : k = g := he; have := hk.2.1; omega) u) (fun _ hk => hk.1)
theorem set_twice (B : Array Value) (x : Nat) (u v : Value) : (B.setIfInBounds x u).setIfInBounds x v = B.setIfInBounds x v := by simp
section
variable {w W : World} {X : Nat} {A : Option Addr} {c : Nat} {b r : List Int} {f : Bool}
theorem rnum' (h : QSt w X A c b r f W) : Calls Try.prog 33 #[.pointer (some ⟨X, 0, none⟩)] W fun e W' => ∃ y r' f', (y, r', f') = nextD r f ∧ e = .returned (.int .i64 y) ∧ QSt w X A c b r' f' W' ∧ KpX X W W' :=
  (rnum_calls h).mono fun e W' h => ⟨_, _, _, rfl, h.1, h.2.1, h.2.2⟩
theorem rlead' (h : QSt w X A c b r f W) (each : Nat) (he : each ≤ 8) : Calls Try.prog 35 #[.pointer (some ⟨X, 0, none⟩), .int .i64 each] W fun e W' => ∃ (n : Nat) (r' : List Int) (f' : Bool), leadR each r f = ((n : Int), r', f') ∧ e = .returned (.int .i64 n) ∧ 0 ≤ n ∧ n ≤ 65535 ∧ QSt w X A c b r' f' W' ∧ KpX X W W' :=
  (rlead_calls h each he).mono fun e W' h => by
    obtain ⟨h0, h1⟩ := lead_bd each r f
    obtain ⟨n, hn⟩ := Int.eq_ofNat_of_zero_le h0
    refine ⟨n, (leadR each r f).2.1, (leadR each r f).2.2, by rw [← hn], by rw [← hn]; exact h.1, Nat.zero_le _, by omega, h.2.1, h.2.2⟩
theorem rlist' (h : QSt w X A c b r f W) : Calls Try.prog 34 #[.pointer (some ⟨X, 0, none⟩)] W fun e W' => ∃ (v : Value) (l r' : List Int) (f' : Bool), (l, r', f') = listR r f ∧ e = .returned v ∧ QSt w X A c b r' f' W' ∧ Kd.R kI 3 W' W.heap.size (fun _ => True) v l ∧ l.length ≤ 65535 ∧ KpX X W W' :=
  (rlist_calls h).mono fun e W' ⟨v, h1, h2, h3, h4, h5⟩ => ⟨v, _, _, _, rfl, h1, h2, h3, h4, h5⟩
end
/-- What the document's Decode leaves. -/
def RDec (w : World) (R : S29 × Int) (e : Ending) (w' : World) : Prop := ∃ (A1 A8 A9 A10 A11 : Option Addr) (c1 c8 c9 c10 c11 : Nat), e = .returned (.tuple #[.agg #[.int .i64 R.1.f0, .slice A1 R.1.f1.length c1, .int .i64 R.1.f2, .int .i64 R.1.f3, .int .i64 R.1.f4, .int .i64 R.1.f5, .int .i64 R.1.f6, .int .i64 R.1.f7, .slice A8 R.1.f8.length c8, .slice A9 R.1.f9.length c9, .slice A10 R.1.f10.length c10, .slice A11 R.1.f11.length c11], .int .i64 R.2]) ∧ CfgIn w' R.1 A1 A8 A9 A10 A11 c1 c8 c9 c10 c11 ∧ Below w.heap.size w w'
theorem C_kb {α : Type} {d : Kd α} {e base : Nat} {ok : Nat → Prop} {A : Option Addr} {c : Nat} {xs : List α} {W V : World} {g : Nat} (h : Kd.R d e W base ok (.slice A xs.length c) xs) (k : KeepBut W V g none) (hg : g < base) : xs.length ≤ c ∧ Kd.C d V A xs.length xs := by
  have h2 := Kd.R_keep (Kd.R_bound h) k (fun i hi => by have := hi.2.1; omega)
  exact ⟨(Kd.R_reads' h2).2.1, (Kd.R_reads' h2).2.2⟩
theorem rdec_ok {w W V : World} {b1 b2 b3 b4 b5 : Nat} {x0 x2 x3 x4 x5 x6 x7 : Int} {l1 : List Int} {l2 : List S57} {l3 : List (List Int)} {l4 : List S59} {l5 : List S61} {A1 A2 A3 A4 A5 : Option Addr} {c1 c2 c3 c4 c5 : Nat} {z : Int}
    (h1 : Kd.R kI 3 W b1 (fun _ => True) (.slice A1 l1.length c1) l1) (h2 : Kd.R k57 57 W b2 (fun _ => True) (.slice A2 l2.length c2) l2) (h3 : Kd.R (Kd.slice 3 kI) 23 W b3 (fun _ => True) (.slice A3 l3.length c3) l3) (h4 : Kd.R k59 59 W b4 (fun _ => True) (.slice A4 l4.length c4) l4) (h5 : Kd.R k61 61 W b5 (fun _ => True) (.slice A5 l5.length c5) l5)
    (hK : KeepBut W V w.heap.size none) (hg : w.heap.size < b1 ∧ w.heap.size < b2 ∧ w.heap.size < b3 ∧ w.heap.size < b4 ∧ w.heap.size < b5) (hB : Below w.heap.size w V) :
    RDec w (⟨x0, l1, x2, x3, x4, x5, x6, x7, l2, l3, l4, l5⟩, z) (.returned (.tuple #[.agg #[.int .i64 x0, .slice A1 l1.length c1, .int .i64 x2, .int .i64 x3, .int .i64 x4, .int .i64 x5, .int .i64 x6, .int .i64 x7, .slice A2 l2.length c2, .slice A3 l3.length c3, .slice A4 l4.length c4, .slice A5 l5.length c5], .int .i64 z])) V :=
  ⟨A1, A2, A3, A4, A5, c1, c2, c3, c4, c5, rfl, ⟨C_kb h1 hK hg.1, C_kb h2 hK hg.2.1, C_kb h3 hK hg.2.2.1, C_kb h4 hK hg.2.2.2.1, C_kb h5 hK hg.2.2.2.2⟩, hB⟩
theorem rdec_z {w V : World} {z : Int} (hB : Below w.heap.size w V) :
    RDec w (noCfg, z) (.returned (.tuple #[.agg #[.int .i64 0, .slice none 0 0, .int .i64 0, .int .i64 0, .int .i64 0, .int .i64 0, .int .i64 0, .int .i64 0, .slice none 0 0, .slice none 0 0, .slice none 0 0, .slice none 0 0], .int .i64 z])) V :=
  ⟨none, none, none, none, none, 0, 0, 0, 0, 0, rfl, (own_none V V.heap.size).in_, hB⟩
theorem res_cfgQ {tmps : Array Value} {W : World} {g : Nat} {cs : Array Value} {e : Value} (hp : tmps.getD 2 undef = .pointer (some ⟨g, 0, none⟩)) (he : tmps.getD 3 undef = e) (hg : W.heap[g]? = some (.cells cs 29 (0, 0))) (hcs : cs.size = 12) :
    (results Try.f12 tmps).run Try.prog W = .ok (.tuple #[.agg cs, e]) W := by
  rw [results_cell_tmp (p := 2) (u := 3) (ty := 29) rfl, hp, he]
  have hl : (loadVar 29 ⟨g, 0, none⟩).run Try.prog W = .ok (.agg cs) W := run_loadVar_row W g 29 29 cs (0, 0) _ hg Try.underlying29 rfl (by rw [hcs]; rfl)
  simp [asAddr, hl, Result.andThen]
theorem cfg_size : (Try.prog.info? 29).map (·.size) = some 12 := by kernel_rfl
theorem row_set {w W : World} {old cs : Array Value} {t : TypeId} (h : W.heap[w.heap.size]? = some (.cells old t (0, 0))) (hb : Below w.heap.size w W) : (W.setRow w.heap.size cs).heap[w.heap.size]? = some (.cells cs t (0, 0)) ∧ KeepBut W (W.setRow w.heap.size cs) w.heap.size none ∧ Below w.heap.size w (W.setRow w.heap.size cs) :=
  ⟨setRow_heap W _ old cs t (0, 0) h, ⟨by rw [setRow_size]; exact Nat.le_refl _, fun i _ hi _ => setRow_other W _ i cs hi⟩, hb.trans ⟨rfl, rfl, rfl, by rw [setRow_size]; exact Nat.le_refl _, fun i hi => setRow_other W _ i cs (by omega)⟩⟩
theorem rdec_init (w : World) (A : Option Addr) (c : Nat) (b : List Int) (hC : Kd.C kU w A b.length b) (hb : ∀ x ∈ b, Byte x) (hl : b.length ≤ 1000000000) (h4 : ¬ b.length < 4) :
    QSt w (w.heap.size + 1) A c b (b.drop 4) true (((w.alloc (Obj.cells #[.int .i64 0, .slice none 0 0, .int .i64 0, .int .i64 0, .int .i64 0, .int .i64 0, .int .i64 0, .int .i64 0, .slice none 0 0, .slice none 0 0, .slice none 0 0, .slice none 0 0] 29 (0, 0))).alloc (Obj.cells #[.slice A b.length c, .int .i64 4, .bool true] 66)).alloc (Obj.cells #[.int .i64 0, .slice none 0 0, .int .i64 0, .int .i64 0, .int .i64 0, .int .i64 0, .int .i64 0, .int .i64 0, .slice none 0 0, .slice none 0 0, .slice none 0 0, .slice none 0 0] 29 (0, 0))) ∧ (((w.alloc (Obj.cells #[.int .i64 0, .slice none 0 0, .int .i64 0, .int .i64 0, .int .i64 0, .int .i64 0, .int .i64 0, .int .i64 0, .slice none 0 0, .slice none 0 0, .slice none 0 0, .slice none 0 0] 29 (0, 0))).alloc (Obj.cells #[.slice A b.length c, .int .i64 4, .bool true] 66)).alloc (Obj.cells #[.int .i64 0, .slice none 0 0, .int .i64 0, .int .i64 0, .int .i64 0, .int .i64 0, .int .i64 0, .int .i64 0, .slice none 0 0, .slice none 0 0, .slice none 0 0, .slice none 0 0] 29 (0, 0))).heap[w.heap.size]? = some (Obj.cells #[.int .i64 0, .slice none 0 0, .int .i64 0, .int .i64 0, .int .i64 0, .int .i64 0, .int .i64 0, .int .i64 0, .slice none 0 0, .slice none 0 0, .slice none 0 0, .slice none 0 0] 29 (0, 0)) ∧ (((w.alloc (Obj.cells #[.int .i64 0, .slice none 0 0, .int .i64 0, .int .i64 0, .int .i64 0, .int .i64 0, .int .i64 0, .int .i64 0, .slice none 0 0, .slice none 0 0, .slice none 0 0, .slice none 0 0] 29 (0, 0))).alloc (Obj.cells #[.slice A b.length c, .int .i64 4, .bool true] 66)).alloc (Obj.cells #[.int .i64 0, .slice none 0 0, .int .i64 0, .int .i64 0, .int .i64 0, .int .i64 0, .int .i64 0, .int .i64 0, .slice none 0 0, .slice none 0 0, .slice none 0 0, .slice none 0 0] 29 (0, 0))).heap[w.heap.size + 1 + 1]? = some (Obj.cells (cbD []) 29 (0, 0)) := by
  refine ⟨⟨?_, List.drop_suffix 4 b, hC, hb, (((Below.refl w.heap.size w).alloc (Nat.le_refl _) _).alloc (by simp) _).alloc (by simp; omega) _, by omega, hl⟩, ?_, ?_⟩
  · rw [alloc_old _ _ _ (by simp), alloc_new' _ _ _ (by simp), List.length_drop, show b.length - (b.length - 4) = 4 by omega]
    rfl
  · rw [alloc_old _ _ _ (by simp; omega), alloc_old _ _ _ (by simp), alloc_new' _ _ _ rfl]
  · exact alloc_new' _ _ _ (by simp)
set_option maxRecDepth 100000 in
set_option maxHeartbeats 32000000 in
theorem rdecode_calls (w : World) (A : Option Addr) (c : Nat) (b : List Int) (hC : Kd.C kU w A b.length b) (hc : b.length ≤ c) (hb : ∀ x ∈ b, Byte x) (hl : b.length ≤ 1000000000) :
    Calls Try.prog 12 #[.slice A b.length c] w fun e w' => RDec w (decQ b) e w' := by
  have HC := Lib.hid hC
  have HCC := Lib.hid hc
  have HBY := Lib.hid hb
  have HLN := Lib.hid hl
  clear hC hc hb hl
  by_cases h4 : b.length < 4
  · go_enter Try.func12, Try.ntmps12
    have h4i : decide ((b.length : Int) < 4) = true := decide_eq_true (by omega)
    have hdec : decQ b = (noCfg, 20) := by
      unfold decQ
      rw [if_neg]
      intro hc
      have hl := congrArg List.length hc
      rw [List.length_take] at hl
      simp at hl
      omega
    have HZ0 : (w.alloc (Obj.cells #[.int .i64 0, .slice none 0 0, .int .i64 0, .int .i64 0, .int .i64 0, .int .i64 0, .int .i64 0, .int .i64 0, .slice none 0 0, .slice none 0 0, .slice none 0 0, .slice none 0 0] 29 (0, 0))).heap[w.heap.size]? = _ := blk_new w (Obj.cells #[.int .i64 0, .slice none 0 0, .int .i64 0, .int .i64 0, .int .i64 0, .int .i64 0, .int .i64 0, .int .i64 0, .slice none 0 0, .slice none 0 0, .slice none 0 0, .slice none 0 0] 29 (0, 0))
    have HB0 : Below w.heap.size w (w.alloc (Obj.cells #[.int .i64 0, .slice none 0 0, .int .i64 0, .int .i64 0, .int .i64 0, .int .i64 0, .int .i64 0, .int .i64 0, .slice none 0 0, .slice none 0 0, .slice none 0 0, .slice none 0 0] 29 (0, 0))) := (Below.refl w.heap.size w).alloc (Nat.le_refl _) _
    go_wp2_with fail
    refine bodyPost_ret (v := .tuple #[.agg #[.int .i64 0, .slice none 0 0, .int .i64 0, .int .i64 0, .int .i64 0, .int .i64 0, .int .i64 0, .int .i64 0, .slice none 0 0, .slice none 0 0, .slice none 0 0, .slice none 0 0], .int .i64 20]) (res_cfgQ (g := w.heap.size) rfl rfl HZ0 rfl) rfl ?_
    rw [hdec]
    exact rdec_z HB0
  have h4c : 4 ≤ c := by have := HCC.out; omega
  have h4d : (4 : Int) ≤ (c : Int) := by omega
  have h4e : decide ((b.length : Int) < 4) = false := decide_eq_false (by omega)
  have h4f : (4 : Int) ≤ (b.length : Int) := by omega
  have hcv : ∀ W, Below w.heap.size w W → ∀ k, (convert 22 9 (.slice A 4 k)).run Try.prog W = .ok (.string (strOfNums (b.take 4))) W := fun W hW k => by
    have h := Kd.C_take HC.out (m := 4) (by omega)
    have hl : (b.take 4).length = 4 := by rw [List.length_take]; omega
    rw [hl] at h
    exact Kd.C_string Try.underlying22 Try.underlying5 Try.underlying9 (Kd.C_below h hW)
  have heq := head_eq (b.take 4) (fun x hx => HBY.out x (List.mem_of_mem_take hx))
  have hcw := hcv _ ((Below.refl w.heap.size w).alloc (Nat.le_refl _) (Obj.cells #[.int .i64 0, .slice none 0 0, .int .i64 0, .int .i64 0, .int .i64 0, .int .i64 0, .int .i64 0, .int .i64 0, .slice none 0 0, .slice none 0 0, .slice none 0 0, .slice none 0 0] 29 (0, 0)))
  by_cases hh : b.take 4 = [82, 79, 84, 65]
  · have heq2 := heq.trans (decide_eq_true hh)
    have HH := Lib.hid hh
    clear heq hh
    go_enter Try.func12, Try.ntmps12
    have HIN := Lib.hid (rdec_init w A c b HC.out HBY.out HLN.out h4)
    have HQ0 := Lib.hid HIN.out.1
    have HZ0 := Lib.hid HIN.out.2.1
    have HC0 := Lib.hid HIN.out.2.2
    go_wp2_with fail
    try clear cc0 cf0
    refine (rnum' HQ0.out).mono ?_
    rintro e V0 ⟨y0, r1, f1, hy, rfl, q, kk⟩
    have HY0 := Lib.hid hy
    have hc := kk.blk HC0.out (by omega)
    have cc0 : V0.cell? ⟨w.heap.size + 1 + 1, 0, none⟩ = some (.int .i64 0) := blk_cell hc 0
    have cf0 := blk_frozen hc 0
    have HQ1 := Lib.hid (q.far (p := ⟨w.heap.size + 1 + 1, 0, none⟩) (by simp) (by show w.heap.size ≤ w.heap.size + 1 + 1; omega) (.int .i64 y0))
    have HC1 := Lib.hid (show (V0.setCell ⟨w.heap.size + 1 + 1, 0, none⟩ (.int .i64 y0)).heap[w.heap.size + 1 + 1]? = some (Obj.cells (cbD [y0]) 29 (0, 0)) from blk_set hc 0 _)
    have HZ1 := Lib.hid (blk_far (kk.blk HZ0.out (by omega)) (p := ⟨w.heap.size + 1 + 1, 0, none⟩) (by show w.heap.size ≠ w.heap.size + 1 + 1; omega) (.int .i64 y0))
    clear hy q kk hc HQ0 HC0 HZ0
    go_wp2_with fail
    try clear cc0 cf0
    refine (rnum' HQ1.out).mono ?_
    rintro e V1 ⟨y1, r2, f2, hy, rfl, q, kk⟩
    have HY1 := Lib.hid hy
    have hc := kk.blk HC1.out (by omega)
    have cc0 : V1.cell? ⟨w.heap.size + 1 + 1, 2, none⟩ = some (.int .i64 0) := blk_cell hc 2
    have cf0 := blk_frozen hc 2
    have HQ2 := Lib.hid (q.far (p := ⟨w.heap.size + 1 + 1, 2, none⟩) (by simp) (by show w.heap.size ≤ w.heap.size + 1 + 1; omega) (.int .i64 y1))
    have HC2 := Lib.hid (show (V1.setCell ⟨w.heap.size + 1 + 1, 2, none⟩ (.int .i64 y1)).heap[w.heap.size + 1 + 1]? = some (Obj.cells (cbD [y0, y1]) 29 (0, 0)) from blk_set hc 2 _)
    have HZ2 := Lib.hid (blk_far (kk.blk HZ1.out (by omega)) (p := ⟨w.heap.size + 1 + 1, 2, none⟩) (by show w.heap.size ≠ w.heap.size + 1 + 1; omega) (.int .i64 y1))
    clear hy q kk hc HQ1 HC1 HZ1
    go_wp2_with fail
    try clear cc0 cf0
    refine (rnum' HQ2.out).mono ?_
    rintro e V2 ⟨y2, r3, f3, hy, rfl, q, kk⟩
    have HY2 := Lib.hid hy
    have hc := kk.blk HC2.out (by omega)
    have cc0 : V2.cell? ⟨w.heap.size + 1 + 1, 3, none⟩ = some (.int .i64 0) := blk_cell hc 3
    have cf0 := blk_frozen hc 3
    have HQ3 := Lib.hid (q.far (p := ⟨w.heap.size + 1 + 1, 3, none⟩) (by simp) (by show w.heap.size ≤ w.heap.size + 1 + 1; omega) (.int .i64 y2))
    have HC3 := Lib.hid (show (V2.setCell ⟨w.heap.size + 1 + 1, 3, none⟩ (.int .i64 y2)).heap[w.heap.size + 1 + 1]? = some (Obj.cells (cbD [y0, y1, y2]) 29 (0, 0)) from blk_set hc 3 _)
    have HZ3 := Lib.hid (blk_far (kk.blk HZ2.out (by omega)) (p := ⟨w.heap.size + 1 + 1, 3, none⟩) (by show w.heap.size ≠ w.heap.size + 1 + 1; omega) (.int .i64 y2))
    clear hy q kk hc HQ2 HC2 HZ2
    go_wp2_with fail
    try clear cc0 cf0
    refine (rnum' HQ3.out).mono ?_
    rintro e V3 ⟨y3, r4, f4, hy, rfl, q, kk⟩
    have HY3 := Lib.hid hy
    have hc := kk.blk HC3.out (by omega)
    have cc0 : V3.cell? ⟨w.heap.size + 1 + 1, 4, none⟩ = some (.int .i64 0) := blk_cell hc 4
    have cf0 := blk_frozen hc 4
    have HQ4 := Lib.hid (q.far (p := ⟨w.heap.size + 1 + 1, 4, none⟩) (by simp) (by show w.heap.size ≤ w.heap.size + 1 + 1; omega) (.int .i64 y3))
    have HC4 := Lib.hid (show (V3.setCell ⟨w.heap.size + 1 + 1, 4, none⟩ (.int .i64 y3)).heap[w.heap.size + 1 + 1]? = some (Obj.cells (cbD [y0, y1, y2, y3]) 29 (0, 0)) from blk_set hc 4 _)
    have HZ4 := Lib.hid (blk_far (kk.blk HZ3.out (by omega)) (p := ⟨w.heap.size + 1 + 1, 4, none⟩) (by show w.heap.size ≠ w.heap.size + 1 + 1; omega) (.int .i64 y3))
    clear hy q kk hc HQ3 HC3 HZ3
    go_wp2_with fail
    try clear cc0 cf0
    refine (rnum' HQ4.out).mono ?_
    rintro e V4 ⟨y4, r5, f5, hy, rfl, q, kk⟩
    have HY4 := Lib.hid hy
    have hc := kk.blk HC4.out (by omega)
    have cc0 : V4.cell? ⟨w.heap.size + 1 + 1, 5, none⟩ = some (.int .i64 0) := blk_cell hc 5
    have cf0 := blk_frozen hc 5
    have HQ5 := Lib.hid (q.far (p := ⟨w.heap.size + 1 + 1, 5, none⟩) (by simp) (by show w.heap.size ≤ w.heap.size + 1 + 1; omega) (.int .i64 y4))
    have HC5 := Lib.hid (show (V4.setCell ⟨w.heap.size + 1 + 1, 5, none⟩ (.int .i64 y4)).heap[w.heap.size + 1 + 1]? = some (Obj.cells (cbD [y0, y1, y2, y3, y4]) 29 (0, 0)) from blk_set hc 5 _)
    have HZ5 := Lib.hid (blk_far (kk.blk HZ4.out (by omega)) (p := ⟨w.heap.size + 1 + 1, 5, none⟩) (by show w.heap.size ≠ w.heap.size + 1 + 1; omega) (.int .i64 y4))
    clear hy q kk hc HQ4 HC4 HZ4
    go_wp2_with fail
    try clear cc0 cf0
    refine (rnum' HQ5.out).mono ?_
    rintro e V5 ⟨y5, r6, f6, hy, rfl, q, kk⟩
    have HY5 := Lib.hid hy
    have hc := kk.blk HC5.out (by omega)
    have cc0 : V5.cell? ⟨w.heap.size + 1 + 1, 6, none⟩ = some (.int .i64 0) := blk_cell hc 6
    have cf0 := blk_frozen hc 6
    have HQ6 := Lib.hid (q.far (p := ⟨w.heap.size + 1 + 1, 6, none⟩) (by simp) (by show w.heap.size ≤ w.heap.size + 1 + 1; omega) (.int .i64 y5))
    have HC6 := Lib.hid (show (V5.setCell ⟨w.heap.size + 1 + 1, 6, none⟩ (.int .i64 y5)).heap[w.heap.size + 1 + 1]? = some (Obj.cells (cbD [y0, y1, y2, y3, y4, y5]) 29 (0, 0)) from blk_set hc 6 _)
    have HZ6 := Lib.hid (blk_far (kk.blk HZ5.out (by omega)) (p := ⟨w.heap.size + 1 + 1, 6, none⟩) (by show w.heap.size ≠ w.heap.size + 1 + 1; omega) (.int .i64 y5))
    clear hy q kk hc HQ5 HC5 HZ5
    go_wp2_with fail
    try clear cc0 cf0
    refine (rnum' HQ6.out).mono ?_
    rintro e V6 ⟨y6, r7, f7, hy, rfl, q, kk⟩
    have HY6 := Lib.hid hy
    have hc := kk.blk HC6.out (by omega)
    have cc0 : V6.cell? ⟨w.heap.size + 1 + 1, 7, none⟩ = some (.int .i64 0) := blk_cell hc 7
    have cf0 := blk_frozen hc 7
    have HQ7 := Lib.hid (q.far (p := ⟨w.heap.size + 1 + 1, 7, none⟩) (by simp) (by show w.heap.size ≤ w.heap.size + 1 + 1; omega) (.int .i64 y6))
    have HC7 := Lib.hid (show (V6.setCell ⟨w.heap.size + 1 + 1, 7, none⟩ (.int .i64 y6)).heap[w.heap.size + 1 + 1]? = some (Obj.cells (cbD [y0, y1, y2, y3, y4, y5, y6]) 29 (0, 0)) from blk_set hc 7 _)
    have HZ7 := Lib.hid (blk_far (kk.blk HZ6.out (by omega)) (p := ⟨w.heap.size + 1 + 1, 7, none⟩) (by show w.heap.size ≠ w.heap.size + 1 + 1; omega) (.int .i64 y6))
    clear hy q kk hc HQ6 HC6 HZ6
    clear hcv hcw heq2 h4 h4c h4d h4e h4f
    have HNU := Lib.hid (show numsD 7 (b.drop 4) true = ([y0, y1, y2, y3, y4, y5, y6], r7, f7) by simp only [numsD, ← HY0.out, ← HY1.out, ← HY2.out, ← HY3.out, ← HY4.out, ← HY5.out, ← HY6.out]; rfl)
    obtain ⟨L7, hL7⟩ : ∃ l, l = [y0, y1, y2, y3, y4, y5, y6] := ⟨_, rfl⟩
    rw [← hL7] at HNU HC7
    clear hL7
    go_wp2_with fail
    try clear cc0 cf0
    refine (rlist' HQ7.out).mono ?_
    rintro e V7 ⟨v1, l1, rA1, fA1, hy, rfl, q, hr1, hl1, kk⟩
    obtain ⟨AA1, cc1, rfl⟩ := Kd.R_slice hr1
    have HN1 := Lib.hid hy
    have hc := kk.blk HC7.out (by omega)
    have cc0 : V7.cell? ⟨w.heap.size + 1 + 1, 1, none⟩ = some (.slice none 0 0) := blk_cell hc 1
    have cf0 := blk_frozen hc 1
    have hcl : w.heap.size + 1 + 1 < (V6.setCell ⟨w.heap.size + 1 + 1, 7, none⟩ (.int .i64 y6)).heap.size := blk_lt HC7.out
    have HQA1 := Lib.hid (q.far (p := ⟨w.heap.size + 1 + 1, 1, none⟩) (by simp) (by show w.heap.size ≤ w.heap.size + 1 + 1; omega) (.slice AA1 l1.length cc1))
    have HCA1 := Lib.hid (show (V7.setCell ⟨w.heap.size + 1 + 1, 1, none⟩ (.slice AA1 l1.length cc1)).heap[w.heap.size + 1 + 1]? = some (Obj.cells ((cbD L7).setIfInBounds 1 (.slice AA1 l1.length cc1)) 29 (0, 0)) from blk_set hc 1 _)
    have HZA1 := Lib.hid (blk_far (kk.blk HZ7.out (by omega)) (p := ⟨w.heap.size + 1 + 1, 1, none⟩) (by show w.heap.size ≠ w.heap.size + 1 + 1; omega) (.slice AA1 l1.length cc1))
    have HRA1 := Lib.hid (R_farC hr1 hcl 1 (.slice AA1 l1.length cc1))
    have HSX1 := Lib.hid (show w.heap.size + 1 < (V6.setCell ⟨w.heap.size + 1 + 1, 7, none⟩ (.int .i64 y6)).heap.size by omega)
    have HB1 := Lib.hid (show w.heap.size + 3 ≤ (V6.setCell ⟨w.heap.size + 1 + 1, 7, none⟩ (.int .i64 y6)).heap.size by omega)
    clear hy q kk hc hr1 HQ7 HC7 HZ7 hcl
    go_wp2_with fail
    try clear cc0 cf0
    refine (rlead' HQA1.out 3 (by decide)).mono ?_
    rintro e S2 ⟨n, sL, gL, hle, rfl, hn0, hn1, q, kk⟩
    have HQL := Lib.hid q
    have HZL := Lib.hid (kk.blk HZA1.out (by omega))
    have HCL := Lib.hid (show S2.heap[w.heap.size + 1 + 1]? = some (Obj.cells (((cbD L7).setIfInBounds 1 (.slice AA1 l1.length cc1)).setIfInBounds 8 (.slice none 0 0)) 29 (0, 0)) by rw [set_self ((cbD L7).setIfInBounds 1 (.slice AA1 l1.length cc1)) 8 _ (by simp [cbD])]; exact kk.blk HCA1.out (by omega))
    have HRL1 := Lib.hid (R_kpx HRA1.out kk HSX1.out)
    have HSC := Lib.hid (show w.heap.size + 1 + 1 < S2.heap.size from blk_lt HCL.out)
    have HSW := Lib.hid (show w.heap.size + 1 < S2.heap.size by have := HSC.out; omega)
    have HLE := Lib.hid (show manyR 3 partR rA1 fA1 = loopR partR n [] sL gL by unfold manyR; rw [hle]; simp)
    clear q kk hle hn0 HQA1 HZA1 HCA1
    go_wp2_with fail
    go_loopw [7] (fun i wr => ∃ (k : Nat) (v : Value) (l : List S57) (s : List Int) (g : Bool), k ≤ n ∧ i = .int .i64 k ∧ l.length = k ∧ Hid (loopR partR (n - k) l s g = manyR 3 partR rA1 fA1) ∧ Hid (QSt w (w.heap.size + 1) A c b s g wr) ∧ Hid (wr.heap[w.heap.size]? = some (Obj.cells #[.int .i64 0, .slice none 0 0, .int .i64 0, .int .i64 0, .int .i64 0, .int .i64 0, .int .i64 0, .int .i64 0, .slice none 0 0, .slice none 0 0, .slice none 0 0, .slice none 0 0] 29 (0, 0))) ∧ Hid (wr.heap[w.heap.size + 1 + 1]? = some (Obj.cells (((cbD L7).setIfInBounds 1 (.slice AA1 l1.length cc1)).setIfInBounds 8 v) 29 (0, 0))) ∧ Hid (Mb w S2 wr) ∧ Hid (Kd.R k57 57 wr S2.heap.size (fun _ => True) v l)) (fun i _ => n - (intOf i).toNat)
    case atStart => exact ⟨0, _, [], sL, gL, by omega, rfl, rfl, Lib.hid HLE.out.symm, HQL, HZL, HCL, Lib.hid (Mb.refl _ _), Lib.hid (Kd.R_nil _ _ _ _ _)⟩
    case round => as_aux_lemma =>
      clear HQL HZL HCL HLE
      obtain ⟨k, v, l, s, g, hk, rfl, hl, HE, HS, HZ, HC, HMB, HR⟩ := hrel
      have HL := Lib.hid hl
      clear hl
      have HSB := Lib.hid (show S2.heap.size ≤ wr.heap.size from HMB.out.1)
      have HSZ := Lib.hid (show w.heap.size + 3 ≤ wr.heap.size by have := HSB.out; have := HSC.out; omega)
      by_cases hlt : k < n
      · obtain ⟨Av, cv, rfl⟩ := Kd.R_slice HR.out
        have HLT := Lib.hid (Kd.R_lt HR.out)
        have HQ0 := Lib.hid (HS.out.below ((Below.refl wr.heap.size wr).alloc (Nat.le_refl _) (Obj.cells #[.int .i64 0, .int .i64 0, .int .i64 0] 57)))
        have HP0 := Lib.hid (blk_new wr (Obj.cells #[.int .i64 0, .int .i64 0, .int .i64 0] 57))
        have HM0 := Lib.hid (KpX.below (X := w.heap.size + 1) ((Below.refl wr.heap.size wr).alloc (Nat.le_refl _) (Obj.cells #[.int .i64 0, .int .i64 0, .int .i64 0] 57)))
        go_wp2_with fail
        try clear cc0 cf0
        refine (rnum' HQ0.out).mono ?_
        rintro e U0 ⟨y0, s1, g1, hy, rfl, q, kk⟩
        have HY0 := Lib.hid hy
        have hp := kk.blk HP0.out (by have := HSZ.out; omega)
        have cc0 : U0.cell? ⟨wr.heap.size, 0, none⟩ = some (.int .i64 0) := blk_cell hp 0
        have cf0 := blk_frozen hp 0
        have HQ1 := Lib.hid (q.far (p := ⟨wr.heap.size, 0, none⟩) (by have := HSZ.out; show wr.heap.size ≠ w.heap.size + 1; omega) (by have := HSZ.out; show w.heap.size ≤ wr.heap.size; omega) (.int .i64 y0))
        have HP1 := Lib.hid (show (U0.setCell ⟨wr.heap.size, 0, none⟩ (.int .i64 y0)).heap[wr.heap.size]? = some (Obj.cells #[.int .i64 y0, .int .i64 0, .int .i64 0] 57 (0, 0)) from blk_set hp 0 _)
        have HM1 := Lib.hid ((HM0.out.trans kk).setNew (b := wr.heap.size) (Nat.le_refl _) 0 (.int .i64 y0))
        clear hy q kk hp HQ0 HP0 HM0 
        go_wp2_with fail
        try clear cc0 cf0
        refine (rnum' HQ1.out).mono ?_
        rintro e U1 ⟨y1, s2, g2, hy, rfl, q, kk⟩
        have HY1 := Lib.hid hy
        have hp := kk.blk HP1.out (by have := HSZ.out; omega)
        have cc0 : U1.cell? ⟨wr.heap.size, 1, none⟩ = some (.int .i64 0) := blk_cell hp 1
        have cf0 := blk_frozen hp 1
        have HQ2 := Lib.hid (q.far (p := ⟨wr.heap.size, 1, none⟩) (by have := HSZ.out; show wr.heap.size ≠ w.heap.size + 1; omega) (by have := HSZ.out; show w.heap.size ≤ wr.heap.size; omega) (.int .i64 y1))
        have HP2 := Lib.hid (show (U1.setCell ⟨wr.heap.size, 1, none⟩ (.int .i64 y1)).heap[wr.heap.size]? = some (Obj.cells #[.int .i64 y0, .int .i64 y1, .int .i64 0] 57 (0, 0)) from blk_set hp 1 _)
        have HM2 := Lib.hid ((HM1.out.trans kk).setNew (b := wr.heap.size) (Nat.le_refl _) 1 (.int .i64 y1))
        clear hy q kk hp HQ1 HP1 HM1 
        go_wp2_with fail
        try clear cc0 cf0
        refine (rnum' HQ2.out).mono ?_
        rintro e U2 ⟨y2, s3, g3, hy, rfl, q, kk⟩
        have HY2 := Lib.hid hy
        have hp := kk.blk HP2.out (by have := HSZ.out; omega)
        have cc0 : U2.cell? ⟨wr.heap.size, 2, none⟩ = some (.int .i64 0) := blk_cell hp 2
        have cf0 := blk_frozen hp 2
        have HQ3 := Lib.hid (q.far (p := ⟨wr.heap.size, 2, none⟩) (by have := HSZ.out; show wr.heap.size ≠ w.heap.size + 1; omega) (by have := HSZ.out; show w.heap.size ≤ wr.heap.size; omega) (.int .i64 y2))
        have HP3 := Lib.hid (show (U2.setCell ⟨wr.heap.size, 2, none⟩ (.int .i64 y2)).heap[wr.heap.size]? = some (Obj.cells #[.int .i64 y0, .int .i64 y1, .int .i64 y2] 57 (0, 0)) from blk_set hp 2 _)
        have HM3 := Lib.hid ((HM2.out.trans kk).setNew (b := wr.heap.size) (Nat.le_refl _) 2 (.int .i64 y2))
        clear hy q kk hp HQ2 HP2 HM2 
        go_upto_region 21 with fail
        generalize hGT : U2.setCell ⟨wr.heap.size, 2, none⟩ (.int .i64 y2) = T at *
        clear hGT cc0 cf0
        have p0 : T.cell? ⟨wr.heap.size, 0, none⟩ = some (.int .i64 y0) := blk_cell HP3.out 0
        have p1 : T.cell? ⟨wr.heap.size, 1, none⟩ = some (.int .i64 y1) := blk_cell HP3.out 1
        have p2 : T.cell? ⟨wr.heap.size, 2, none⟩ = some (.int .i64 y2) := blk_cell HP3.out 2
        have HYY := Lib.hid (show partR s g = ((⟨y0, y1, y2⟩ : S57), s3, g3) by simp only [partR, ← HY0.out, ← HY1.out, ← HY2.out])
        have HE2 := Lib.hid ((loopR_end partR n k hlt l s g).symm.trans HE.out)
        rw [HYY.out] at HE2
        dsimp only at HE2
        have HRT := Lib.hid (R_kpx HR.out HM3.out HSW.out)
        have HCT := Lib.hid (HM3.out.blk HC.out (by omega))
        have HZT := Lib.hid (HM3.out.blk HZ.out (by omega))
        have HMT := Lib.hid (HMB.out.kpx HM3.out)
        have HST := Lib.hid (Nat.le_trans HSB.out HM3.out.1)
        have m0 : T.cell? ⟨w.heap.size + 1 + 1, 8, none⟩ = some (.slice Av l.length cv) := by rw [blk_cell HCT.out 8]; simp [cbD]
        clear HS HE HR HC HZ HMB HM3

        iterate 13 (first | go_values | go_step)
        with_reducible refine gate_z (b := .append) (xs := #[.tmp 58, .tmp 60]) rfl ?_
        at_builtin
        refine Kd.R_append k57 (w0 := T) S2.heap.size rfl (.tmp 58) (.tmp 60) 24 57 (.agg #[.int .i64 0, .int .i64 0, .int .i64 0]) 24 rfl Try.underlying24 info57 rfl (by decide) (by omega) (.slice Av l.length cv) l (⟨y0, y1, y2⟩ : S57) [.int .i64 y0, .int .i64 y1, .int .i64 y2] (fun _ => True) (fun _ => False) rfl (by first | rfl | (rw [World.size_setCell]; rfl)) (k57_mkM _ _ _ _) (fun _ hk => hk.elim) (fun _ _ => trivial) HRT.out (Below.refl _ _) HST.out (by have := HL.out; omega) ?_
        intro v5 W5 ho5 hb5 hg5 hat5
        obtain ⟨Av5, cv5, hv5⟩ := Kd.R_slice ho5
        obtain rfl : v5 = .slice Av5 (k + 1) cv5 := (by rw [hv5, List.length_append, HL.out]; rfl)
        clear hv5
        have HO5 := Lib.hid ho5
        have HQ5 := Lib.hid (HQ3.out.belowX hb5 HSW.out)
        have HC5 := Lib.hid ((hb5.block _ HSC.out).trans HCT.out)
        have HZ5 := Lib.hid ((hb5.block _ (by have := HSC.out; omega)).trans HZT.out)
        have HM5 := Lib.hid (HMT.out.below hb5)
        have c5 : W5.cell? ⟨w.heap.size + 1 + 1, 8, none⟩ = some (.slice Av l.length cv) := (by rw [blk_cell HC5.out 8]; simp [cbD])
        have f5 := blk_frozen HC5.out 8
        clear ho5 hb5 hg5 hat5
        go_wp2_with fail
        clear m0 c5 f5 HRT HCT HZT HMT HQ3
        have HQ6 := Lib.hid (HQ5.out.far (p := ⟨w.heap.size + 1 + 1, 8, none⟩) (by simp) (by show w.heap.size ≤ w.heap.size + 1 + 1; omega) (.slice Av5 (k + 1) cv5))
        have HC6 := Lib.hid (show (W5.setCell ⟨w.heap.size + 1 + 1, 8, none⟩ (.slice Av5 (k + 1) cv5)).heap[w.heap.size + 1 + 1]? = some (Obj.cells (((cbD L7).setIfInBounds 1 (.slice AA1 l1.length cc1)).setIfInBounds 8 (.slice Av5 (k + 1) cv5)) 29 (0, 0)) by
          have h := blk_set HC5.out 8 (.slice Av5 (k + 1) cv5)
          rw [set_twice] at h
          exact h)
        have HZ6 := Lib.hid (blk_far HZ5.out (p := ⟨w.heap.size + 1 + 1, 8, none⟩) (by show w.heap.size ≠ w.heap.size + 1 + 1; omega) (.slice Av5 (k + 1) cv5))
        have HM6 := Lib.hid (HM5.out.set 8 (.slice Av5 (k + 1) cv5))
        have HO6 := Lib.hid (R_farC HO5.out (by have := HSC.out; exact this) 8 (.slice Av5 (k + 1) cv5))
        go_roundw
        case rel => exact ⟨k + 1, _, l ++ [(⟨y0, y1, y2⟩ : S57)], s3, g3, by omega, by go_num, by rw [List.length_append, HL.out]; rfl, HE2, HQ6, HZ6, HC6, HM6, HO6⟩
        case measure => simp [intOf]; omega
      · obtain rfl : k = n := by omega
        have hE := HE.out
        rw [Nat.sub_self] at hE
        obtain ⟨AA2, cc2, rfl⟩ := Kd.R_slice HR.out
        obtain ⟨l2, hl2⟩ : ∃ l2, l2 = l := ⟨_, rfl⟩
        subst hl2
        obtain ⟨rA2, hr2⟩ : ∃ x, x = s := ⟨_, rfl⟩
        obtain ⟨fA2, hf2⟩ : ∃ x, x = g := ⟨_, rfl⟩
        subst hr2 hf2
        have HN2 := Lib.hid (show (l2, rA2, fA2) = manyR 3 partR rA1 fA1 from hE)
        have HQA2 := HS
        have HZA2 := HZ
        have HCA2 := HC
        have HRA2 := HR
        have HSX2 := HSW
        have HRA1 := Lib.hid (R_mb HRL1.out HMB.out HB1.out)
        have HB2 := Lib.hid (show w.heap.size + 3 ≤ S2.heap.size by have := HSC.out; omega)
        clear hE HE HS HZ HC HMB HR HSB HSZ HSW HSC HL hlt hk hn1 HRL1
        go_wp2_with fail
        try clear cc0 cf0
        refine (rlead' HQA2.out 1 (by decide)).mono ?_
        rintro e S3 ⟨n, sL, gL, hle, rfl, hn0, hn1, q, kk⟩
        have HQL := Lib.hid q
        have HZL := Lib.hid (kk.blk HZA2.out (by omega))
        have HCL := Lib.hid (show S3.heap[w.heap.size + 1 + 1]? = some (Obj.cells ((((cbD L7).setIfInBounds 1 (.slice AA1 l1.length cc1)).setIfInBounds 8 (.slice AA2 l2.length cc2)).setIfInBounds 9 (.slice none 0 0)) 29 (0, 0)) by rw [set_self (((cbD L7).setIfInBounds 1 (.slice AA1 l1.length cc1)).setIfInBounds 8 (.slice AA2 l2.length cc2)) 9 _ (by simp [cbD])]; exact kk.blk HCA2.out (by omega))
        have HRL1 := Lib.hid (R_kpx HRA1.out kk HSX1.out)
        have HRL2 := Lib.hid (R_kpx HRA2.out kk HSX2.out)
        have HSC := Lib.hid (show w.heap.size + 1 + 1 < S3.heap.size from blk_lt HCL.out)
        have HSW := Lib.hid (show w.heap.size + 1 < S3.heap.size by have := HSC.out; omega)
        have HLE := Lib.hid (show manyR 1 listR rA2 fA2 = loopR listR n [] sL gL by unfold manyR; rw [hle]; simp)
        clear q kk hle hn0 HQA2 HZA2 HCA2
        go_wp2_with fail
        go_loopw [9] (fun i wr => ∃ (k : Nat) (v : Value) (l : List (List Int)) (s : List Int) (g : Bool), k ≤ n ∧ i = .int .i64 k ∧ l.length = k ∧ Hid (loopR listR (n - k) l s g = manyR 1 listR rA2 fA2) ∧ Hid (QSt w (w.heap.size + 1) A c b s g wr) ∧ Hid (wr.heap[w.heap.size]? = some (Obj.cells #[.int .i64 0, .slice none 0 0, .int .i64 0, .int .i64 0, .int .i64 0, .int .i64 0, .int .i64 0, .int .i64 0, .slice none 0 0, .slice none 0 0, .slice none 0 0, .slice none 0 0] 29 (0, 0))) ∧ Hid (wr.heap[w.heap.size + 1 + 1]? = some (Obj.cells ((((cbD L7).setIfInBounds 1 (.slice AA1 l1.length cc1)).setIfInBounds 8 (.slice AA2 l2.length cc2)).setIfInBounds 9 v) 29 (0, 0))) ∧ Hid (Mb w S3 wr) ∧ Hid (Kd.R (Kd.slice 3 kI) 23 wr S3.heap.size (fun _ => True) v l)) (fun i _ => n - (intOf i).toNat)
        case atStart => exact ⟨0, _, [], sL, gL, by omega, rfl, rfl, Lib.hid HLE.out.symm, HQL, HZL, HCL, Lib.hid (Mb.refl _ _), Lib.hid (Kd.R_nil _ _ _ _ _)⟩
        case round => as_aux_lemma =>
          clear HQL HZL HCL HLE
          obtain ⟨k, v, l, s, g, hk, rfl, hl, HE, HS, HZ, HC, HMB, HR⟩ := hrel
          have HL := Lib.hid hl
          clear hl
          have HSB := Lib.hid (show S3.heap.size ≤ wr.heap.size from HMB.out.1)
          have HSZ := Lib.hid (show w.heap.size + 3 ≤ wr.heap.size by have := HSB.out; have := HSC.out; omega)
          by_cases hlt : k < n
          · obtain ⟨Av, cv, rfl⟩ := Kd.R_slice HR.out
            have HLT := Lib.hid (Kd.R_lt HR.out)
            go_wp2_with fail
            try clear cc0 cf0
            refine (rlist' HS.out).mono ?_
            rintro e U0 ⟨vy, y0, s1, g1, hy, rfl, q, hry, hly, kk⟩
            obtain ⟨Ay, cy, rfl⟩ := Kd.R_slice hry
            have HYE := Lib.hid hy
            have HQ1 := Lib.hid q
            have HRY := Lib.hid (Kd.R_mono (Kd.R_bound hry) (fun k hk => hk.2.1))
            have HM1 := Lib.hid kk
            clear hy q hry kk
            have HYY := Lib.hid (show listR s g = (y0, s1, g1) from HYE.out.symm)
            have HE2 := Lib.hid ((loopR_end listR n k hlt l s g).symm.trans HE.out)
            rw [HYY.out] at HE2
            dsimp only at HE2
            have HRT := Lib.hid (R_kpx HR.out HM1.out HSW.out)
            have HCT := Lib.hid (HM1.out.blk HC.out (by omega))
            have HZT := Lib.hid (HM1.out.blk HZ.out (by omega))
            have HMT := Lib.hid (HMB.out.kpx HM1.out)
            have HST := Lib.hid (Nat.le_trans HSB.out HM1.out.1)
            have m0 : U0.cell? ⟨w.heap.size + 1 + 1, 9, none⟩ = some (.slice Av l.length cv) := by rw [blk_cell HCT.out 9]; simp [cbD]
            clear HS HE HR HC HZ HMB HM1

            go_upto_region 27 with fail
            iterate 13 (first | go_values | go_step)
            with_reducible refine gate_z (b := .append) (xs := #[.tmp 71, .tmp 73]) rfl ?_
            at_builtin
            refine Kd.R_append (Kd.slice 3 kI) (w0 := U0) S3.heap.size rfl (.tmp 71) (.tmp 73) 25 23 (.slice none 0 0) 24 rfl Try.underlying25 info23 rfl (by decide) (by omega) (.slice Av l.length cv) l y0 [.slice Ay y0.length cy] (fun _ => True) (fun k => wr.heap.size ≤ k) rfl (by first | rfl | (rw [World.size_setCell]; rfl)) (Kd.M_row (Kd.R_lower HRY.out HSB.out)) (fun k hk => ⟨trivial, fun he => by have := HLT.out k he.symm; omega⟩) (fun _ _ => trivial) HRT.out (Below.refl _ _) HST.out (by have := HL.out; omega) ?_
            intro v5 W5 ho5 hb5 hg5 hat5
            obtain ⟨Av5, cv5, hv5⟩ := Kd.R_slice ho5
            obtain rfl : v5 = .slice Av5 (k + 1) cv5 := (by rw [hv5, List.length_append, HL.out]; rfl)
            clear hv5
            have HO5 := Lib.hid ho5
            have HQ5 := Lib.hid (HQ1.out.belowX hb5 HSW.out)
            have HC5 := Lib.hid ((hb5.block _ HSC.out).trans HCT.out)
            have HZ5 := Lib.hid ((hb5.block _ (by have := HSC.out; omega)).trans HZT.out)
            have HM5 := Lib.hid (HMT.out.below hb5)
            have c5 : W5.cell? ⟨w.heap.size + 1 + 1, 9, none⟩ = some (.slice Av l.length cv) := (by rw [blk_cell HC5.out 9]; simp [cbD])
            have f5 := blk_frozen HC5.out 9
            clear ho5 hb5 hg5 hat5
            go_wp2_with fail
            clear m0 c5 f5 HRT HCT HZT HMT HQ1
            have HQ6 := Lib.hid (HQ5.out.far (p := ⟨w.heap.size + 1 + 1, 9, none⟩) (by simp) (by show w.heap.size ≤ w.heap.size + 1 + 1; omega) (.slice Av5 (k + 1) cv5))
            have HC6 := Lib.hid (show (W5.setCell ⟨w.heap.size + 1 + 1, 9, none⟩ (.slice Av5 (k + 1) cv5)).heap[w.heap.size + 1 + 1]? = some (Obj.cells ((((cbD L7).setIfInBounds 1 (.slice AA1 l1.length cc1)).setIfInBounds 8 (.slice AA2 l2.length cc2)).setIfInBounds 9 (.slice Av5 (k + 1) cv5)) 29 (0, 0)) by
              have h := blk_set HC5.out 9 (.slice Av5 (k + 1) cv5)
              rw [set_twice] at h
              exact h)
            have HZ6 := Lib.hid (blk_far HZ5.out (p := ⟨w.heap.size + 1 + 1, 9, none⟩) (by show w.heap.size ≠ w.heap.size + 1 + 1; omega) (.slice Av5 (k + 1) cv5))
            have HM6 := Lib.hid (HM5.out.set 9 (.slice Av5 (k + 1) cv5))
            have HO6 := Lib.hid (R_farC HO5.out (by have := HSC.out; exact this) 9 (.slice Av5 (k + 1) cv5))
            go_roundw
            case rel => exact ⟨k + 1, _, l ++ [y0], s1, g1, by omega, by go_num, by rw [List.length_append, HL.out]; rfl, HE2, HQ6, HZ6, HC6, HM6, HO6⟩
            case measure => simp [intOf]; omega
          · obtain rfl : k = n := by omega
            have hE := HE.out
            rw [Nat.sub_self] at hE
            obtain ⟨AA3, cc3, rfl⟩ := Kd.R_slice HR.out
            obtain ⟨l3, hl3⟩ : ∃ l3, l3 = l := ⟨_, rfl⟩
            subst hl3
            obtain ⟨rA3, hr3⟩ : ∃ x, x = s := ⟨_, rfl⟩
            obtain ⟨fA3, hf3⟩ : ∃ x, x = g := ⟨_, rfl⟩
            subst hr3 hf3
            have HN3 := Lib.hid (show (l3, rA3, fA3) = manyR 1 listR rA2 fA2 from hE)
            have HQA3 := HS
            have HZA3 := HZ
            have HCA3 := HC
            have HRA3 := HR
            have HSX3 := HSW
            have HRA1 := Lib.hid (R_mb HRL1.out HMB.out HB1.out)
            have HRA2 := Lib.hid (R_mb HRL2.out HMB.out HB2.out)
            have HB3 := Lib.hid (show w.heap.size + 3 ≤ S3.heap.size by have := HSC.out; omega)
            clear hE HE HS HZ HC HMB HR HSB HSZ HSW HSC HL hlt hk hn1 HRL1 HRL2
            go_wp2_with fail
            try clear cc0 cf0
            refine (rlead' HQA3.out 6 (by decide)).mono ?_
            rintro e S4 ⟨n, sL, gL, hle, rfl, hn0, hn1, q, kk⟩
            have HQL := Lib.hid q
            have HZL := Lib.hid (kk.blk HZA3.out (by omega))
            have HCL := Lib.hid (show S4.heap[w.heap.size + 1 + 1]? = some (Obj.cells (((((cbD L7).setIfInBounds 1 (.slice AA1 l1.length cc1)).setIfInBounds 8 (.slice AA2 l2.length cc2)).setIfInBounds 9 (.slice AA3 l3.length cc3)).setIfInBounds 10 (.slice none 0 0)) 29 (0, 0)) by rw [set_self ((((cbD L7).setIfInBounds 1 (.slice AA1 l1.length cc1)).setIfInBounds 8 (.slice AA2 l2.length cc2)).setIfInBounds 9 (.slice AA3 l3.length cc3)) 10 _ (by simp [cbD])]; exact kk.blk HCA3.out (by omega))
            have HRL1 := Lib.hid (R_kpx HRA1.out kk HSX1.out)
            have HRL2 := Lib.hid (R_kpx HRA2.out kk HSX2.out)
            have HRL3 := Lib.hid (R_kpx HRA3.out kk HSX3.out)
            have HSC := Lib.hid (show w.heap.size + 1 + 1 < S4.heap.size from blk_lt HCL.out)
            have HSW := Lib.hid (show w.heap.size + 1 < S4.heap.size by have := HSC.out; omega)
            have HLE := Lib.hid (show manyR 6 portR rA3 fA3 = loopR portR n [] sL gL by unfold manyR; rw [hle]; simp)
            clear q kk hle hn0 HQA3 HZA3 HCA3
            go_wp2_with fail
            go_loopw [11] (fun i wr => ∃ (k : Nat) (v : Value) (l : List S59) (s : List Int) (g : Bool), k ≤ n ∧ i = .int .i64 k ∧ l.length = k ∧ Hid (loopR portR (n - k) l s g = manyR 6 portR rA3 fA3) ∧ Hid (QSt w (w.heap.size + 1) A c b s g wr) ∧ Hid (wr.heap[w.heap.size]? = some (Obj.cells #[.int .i64 0, .slice none 0 0, .int .i64 0, .int .i64 0, .int .i64 0, .int .i64 0, .int .i64 0, .int .i64 0, .slice none 0 0, .slice none 0 0, .slice none 0 0, .slice none 0 0] 29 (0, 0))) ∧ Hid (wr.heap[w.heap.size + 1 + 1]? = some (Obj.cells (((((cbD L7).setIfInBounds 1 (.slice AA1 l1.length cc1)).setIfInBounds 8 (.slice AA2 l2.length cc2)).setIfInBounds 9 (.slice AA3 l3.length cc3)).setIfInBounds 10 v) 29 (0, 0))) ∧ Hid (Mb w S4 wr) ∧ Hid (Kd.R k59 59 wr S4.heap.size (fun _ => True) v l)) (fun i _ => n - (intOf i).toNat)
            case atStart => exact ⟨0, _, [], sL, gL, by omega, rfl, rfl, Lib.hid HLE.out.symm, HQL, HZL, HCL, Lib.hid (Mb.refl _ _), Lib.hid (Kd.R_nil _ _ _ _ _)⟩
            case round => as_aux_lemma =>
              clear HQL HZL HCL HLE
              obtain ⟨k, v, l, s, g, hk, rfl, hl, HE, HS, HZ, HC, HMB, HR⟩ := hrel
              have HL := Lib.hid hl
              clear hl
              have HSB := Lib.hid (show S4.heap.size ≤ wr.heap.size from HMB.out.1)
              have HSZ := Lib.hid (show w.heap.size + 3 ≤ wr.heap.size by have := HSB.out; have := HSC.out; omega)
              by_cases hlt : k < n
              · obtain ⟨Av, cv, rfl⟩ := Kd.R_slice HR.out
                have HLT := Lib.hid (Kd.R_lt HR.out)
                have HQ0 := Lib.hid (HS.out.below ((Below.refl wr.heap.size wr).alloc (Nat.le_refl _) (Obj.cells #[.int .i64 0, .int .i64 0, .int .i64 0, .int .i64 0, .int .i64 0, .int .i64 0] 59)))
                have HP0 := Lib.hid (blk_new wr (Obj.cells #[.int .i64 0, .int .i64 0, .int .i64 0, .int .i64 0, .int .i64 0, .int .i64 0] 59))
                have HM0 := Lib.hid (KpX.below (X := w.heap.size + 1) ((Below.refl wr.heap.size wr).alloc (Nat.le_refl _) (Obj.cells #[.int .i64 0, .int .i64 0, .int .i64 0, .int .i64 0, .int .i64 0, .int .i64 0] 59)))
                go_wp2_with fail
                try clear cc0 cf0
                refine (rnum' HQ0.out).mono ?_
                rintro e U0 ⟨y0, s1, g1, hy, rfl, q, kk⟩
                have HY0 := Lib.hid hy
                have hp := kk.blk HP0.out (by have := HSZ.out; omega)
                have cc0 : U0.cell? ⟨wr.heap.size, 0, none⟩ = some (.int .i64 0) := blk_cell hp 0
                have cf0 := blk_frozen hp 0
                have HQ1 := Lib.hid (q.far (p := ⟨wr.heap.size, 0, none⟩) (by have := HSZ.out; show wr.heap.size ≠ w.heap.size + 1; omega) (by have := HSZ.out; show w.heap.size ≤ wr.heap.size; omega) (.int .i64 y0))
                have HP1 := Lib.hid (show (U0.setCell ⟨wr.heap.size, 0, none⟩ (.int .i64 y0)).heap[wr.heap.size]? = some (Obj.cells #[.int .i64 y0, .int .i64 0, .int .i64 0, .int .i64 0, .int .i64 0, .int .i64 0] 59 (0, 0)) from blk_set hp 0 _)
                have HM1 := Lib.hid ((HM0.out.trans kk).setNew (b := wr.heap.size) (Nat.le_refl _) 0 (.int .i64 y0))
                clear hy q kk hp HQ0 HP0 HM0 
                go_wp2_with fail
                try clear cc0 cf0
                refine (rnum' HQ1.out).mono ?_
                rintro e U1 ⟨y1, s2, g2, hy, rfl, q, kk⟩
                have HY1 := Lib.hid hy
                have hp := kk.blk HP1.out (by have := HSZ.out; omega)
                have cc0 : U1.cell? ⟨wr.heap.size, 1, none⟩ = some (.int .i64 0) := blk_cell hp 1
                have cf0 := blk_frozen hp 1
                have HQ2 := Lib.hid (q.far (p := ⟨wr.heap.size, 1, none⟩) (by have := HSZ.out; show wr.heap.size ≠ w.heap.size + 1; omega) (by have := HSZ.out; show w.heap.size ≤ wr.heap.size; omega) (.int .i64 y1))
                have HP2 := Lib.hid (show (U1.setCell ⟨wr.heap.size, 1, none⟩ (.int .i64 y1)).heap[wr.heap.size]? = some (Obj.cells #[.int .i64 y0, .int .i64 y1, .int .i64 0, .int .i64 0, .int .i64 0, .int .i64 0] 59 (0, 0)) from blk_set hp 1 _)
                have HM2 := Lib.hid ((HM1.out.trans kk).setNew (b := wr.heap.size) (Nat.le_refl _) 1 (.int .i64 y1))
                clear hy q kk hp HQ1 HP1 HM1 
                go_wp2_with fail
                try clear cc0 cf0
                refine (rnum' HQ2.out).mono ?_
                rintro e U2 ⟨y2, s3, g3, hy, rfl, q, kk⟩
                have HY2 := Lib.hid hy
                have hp := kk.blk HP2.out (by have := HSZ.out; omega)
                have cc0 : U2.cell? ⟨wr.heap.size, 2, none⟩ = some (.int .i64 0) := blk_cell hp 2
                have cf0 := blk_frozen hp 2
                have HQ3 := Lib.hid (q.far (p := ⟨wr.heap.size, 2, none⟩) (by have := HSZ.out; show wr.heap.size ≠ w.heap.size + 1; omega) (by have := HSZ.out; show w.heap.size ≤ wr.heap.size; omega) (.int .i64 y2))
                have HP3 := Lib.hid (show (U2.setCell ⟨wr.heap.size, 2, none⟩ (.int .i64 y2)).heap[wr.heap.size]? = some (Obj.cells #[.int .i64 y0, .int .i64 y1, .int .i64 y2, .int .i64 0, .int .i64 0, .int .i64 0] 59 (0, 0)) from blk_set hp 2 _)
                have HM3 := Lib.hid ((HM2.out.trans kk).setNew (b := wr.heap.size) (Nat.le_refl _) 2 (.int .i64 y2))
                clear hy q kk hp HQ2 HP2 HM2 
                go_wp2_with fail
                try clear cc0 cf0
                refine (rnum' HQ3.out).mono ?_
                rintro e U3 ⟨y3, s4, g4, hy, rfl, q, kk⟩
                have HY3 := Lib.hid hy
                have hp := kk.blk HP3.out (by have := HSZ.out; omega)
                have cc0 : U3.cell? ⟨wr.heap.size, 3, none⟩ = some (.int .i64 0) := blk_cell hp 3
                have cf0 := blk_frozen hp 3
                have HQ4 := Lib.hid (q.far (p := ⟨wr.heap.size, 3, none⟩) (by have := HSZ.out; show wr.heap.size ≠ w.heap.size + 1; omega) (by have := HSZ.out; show w.heap.size ≤ wr.heap.size; omega) (.int .i64 y3))
                have HP4 := Lib.hid (show (U3.setCell ⟨wr.heap.size, 3, none⟩ (.int .i64 y3)).heap[wr.heap.size]? = some (Obj.cells #[.int .i64 y0, .int .i64 y1, .int .i64 y2, .int .i64 y3, .int .i64 0, .int .i64 0] 59 (0, 0)) from blk_set hp 3 _)
                have HM4 := Lib.hid ((HM3.out.trans kk).setNew (b := wr.heap.size) (Nat.le_refl _) 3 (.int .i64 y3))
                clear hy q kk hp HQ3 HP3 HM3 
                go_wp2_with fail
                try clear cc0 cf0
                refine (rnum' HQ4.out).mono ?_
                rintro e U4 ⟨y4, s5, g5, hy, rfl, q, kk⟩
                have HY4 := Lib.hid hy
                have hp := kk.blk HP4.out (by have := HSZ.out; omega)
                have cc0 : U4.cell? ⟨wr.heap.size, 4, none⟩ = some (.int .i64 0) := blk_cell hp 4
                have cf0 := blk_frozen hp 4
                have HQ5 := Lib.hid (q.far (p := ⟨wr.heap.size, 4, none⟩) (by have := HSZ.out; show wr.heap.size ≠ w.heap.size + 1; omega) (by have := HSZ.out; show w.heap.size ≤ wr.heap.size; omega) (.int .i64 y4))
                have HP5 := Lib.hid (show (U4.setCell ⟨wr.heap.size, 4, none⟩ (.int .i64 y4)).heap[wr.heap.size]? = some (Obj.cells #[.int .i64 y0, .int .i64 y1, .int .i64 y2, .int .i64 y3, .int .i64 y4, .int .i64 0] 59 (0, 0)) from blk_set hp 4 _)
                have HM5 := Lib.hid ((HM4.out.trans kk).setNew (b := wr.heap.size) (Nat.le_refl _) 4 (.int .i64 y4))
                clear hy q kk hp HQ4 HP4 HM4 
                go_wp2_with fail
                try clear cc0 cf0
                refine (rnum' HQ5.out).mono ?_
                rintro e U5 ⟨y5, s6, g6, hy, rfl, q, kk⟩
                have HY5 := Lib.hid hy
                have hp := kk.blk HP5.out (by have := HSZ.out; omega)
                have cc0 : U5.cell? ⟨wr.heap.size, 5, none⟩ = some (.int .i64 0) := blk_cell hp 5
                have cf0 := blk_frozen hp 5
                have HQ6 := Lib.hid (q.far (p := ⟨wr.heap.size, 5, none⟩) (by have := HSZ.out; show wr.heap.size ≠ w.heap.size + 1; omega) (by have := HSZ.out; show w.heap.size ≤ wr.heap.size; omega) (.int .i64 y5))
                have HP6 := Lib.hid (show (U5.setCell ⟨wr.heap.size, 5, none⟩ (.int .i64 y5)).heap[wr.heap.size]? = some (Obj.cells #[.int .i64 y0, .int .i64 y1, .int .i64 y2, .int .i64 y3, .int .i64 y4, .int .i64 y5] 59 (0, 0)) from blk_set hp 5 _)
                have HM6 := Lib.hid ((HM5.out.trans kk).setNew (b := wr.heap.size) (Nat.le_refl _) 5 (.int .i64 y5))
                clear hy q kk hp HQ5 HP5 HM5 
                go_upto_region 39 with fail
                generalize hGT : U5.setCell ⟨wr.heap.size, 5, none⟩ (.int .i64 y5) = T at *
                clear hGT cc0 cf0
                have p0 : T.cell? ⟨wr.heap.size, 0, none⟩ = some (.int .i64 y0) := blk_cell HP6.out 0
                have p1 : T.cell? ⟨wr.heap.size, 1, none⟩ = some (.int .i64 y1) := blk_cell HP6.out 1
                have p2 : T.cell? ⟨wr.heap.size, 2, none⟩ = some (.int .i64 y2) := blk_cell HP6.out 2
                have p3 : T.cell? ⟨wr.heap.size, 3, none⟩ = some (.int .i64 y3) := blk_cell HP6.out 3
                have p4 : T.cell? ⟨wr.heap.size, 4, none⟩ = some (.int .i64 y4) := blk_cell HP6.out 4
                have p5 : T.cell? ⟨wr.heap.size, 5, none⟩ = some (.int .i64 y5) := blk_cell HP6.out 5
                have HYY := Lib.hid (show portR s g = ((⟨y0, y1, y2, y3, y4, y5⟩ : S59), s6, g6) by simp only [portR, ← HY0.out, ← HY1.out, ← HY2.out, ← HY3.out, ← HY4.out, ← HY5.out])
                have HE2 := Lib.hid ((loopR_end portR n k hlt l s g).symm.trans HE.out)
                rw [HYY.out] at HE2
                dsimp only at HE2
                have HRT := Lib.hid (R_kpx HR.out HM6.out HSW.out)
                have HCT := Lib.hid (HM6.out.blk HC.out (by omega))
                have HZT := Lib.hid (HM6.out.blk HZ.out (by omega))
                have HMT := Lib.hid (HMB.out.kpx HM6.out)
                have HST := Lib.hid (Nat.le_trans HSB.out HM6.out.1)
                have m0 : T.cell? ⟨w.heap.size + 1 + 1, 10, none⟩ = some (.slice Av l.length cv) := by rw [blk_cell HCT.out 10]; simp [cbD]
                clear HS HE HR HC HZ HMB HM6

                iterate 11 (first | go_values | go_step)
                refine wp_bs_port (x := .tmp 97) rfl rfl ?_
                simp only [Act.put, List.setIfInBounds_toArray, List.set_cons_zero, List.set_cons_succ]
                iterate 1 (first | go_values | go_step)
                with_reducible refine gate_z (b := .append) (xs := #[.tmp 96, .tmp 98]) rfl ?_
                at_builtin
                refine Kd.R_append k59 (w0 := T) S4.heap.size rfl (.tmp 96) (.tmp 98) 26 59 (.agg #[.int .i64 0, .int .i64 0, .int .i64 0, .int .i64 0, .int .i64 0, .int .i64 0]) 48 rfl Try.underlying26 info59 rfl (by decide) (by omega) (.slice Av l.length cv) l (⟨y0, y1, y2, y3, y4, y5⟩ : S59) [.int .i64 y0, .int .i64 y1, .int .i64 y2, .int .i64 y3, .int .i64 y4, .int .i64 y5] (fun _ => True) (fun _ => False) rfl (by first | rfl | (rw [World.size_setCell]; rfl)) (k59_mkM _ _ _ _) (fun _ hk => hk.elim) (fun _ _ => trivial) HRT.out (Below.refl _ _) HST.out (by have := HL.out; omega) ?_
                intro v5 W5 ho5 hb5 hg5 hat5
                obtain ⟨Av5, cv5, hv5⟩ := Kd.R_slice ho5
                obtain rfl : v5 = .slice Av5 (k + 1) cv5 := (by rw [hv5, List.length_append, HL.out]; rfl)
                clear hv5
                have HO5 := Lib.hid ho5
                have HQ5 := Lib.hid (HQ6.out.belowX hb5 HSW.out)
                have HC5 := Lib.hid ((hb5.block _ HSC.out).trans HCT.out)
                have HZ5 := Lib.hid ((hb5.block _ (by have := HSC.out; omega)).trans HZT.out)
                have HM5 := Lib.hid (HMT.out.below hb5)
                have c5 : W5.cell? ⟨w.heap.size + 1 + 1, 10, none⟩ = some (.slice Av l.length cv) := (by rw [blk_cell HC5.out 10]; simp [cbD])
                have f5 := blk_frozen HC5.out 10
                clear ho5 hb5 hg5 hat5
                go_wp2_with fail
                clear m0 c5 f5 HRT HCT HZT HMT HQ6
                have HQ6 := Lib.hid (HQ5.out.far (p := ⟨w.heap.size + 1 + 1, 10, none⟩) (by simp) (by show w.heap.size ≤ w.heap.size + 1 + 1; omega) (.slice Av5 (k + 1) cv5))
                have HC6 := Lib.hid (show (W5.setCell ⟨w.heap.size + 1 + 1, 10, none⟩ (.slice Av5 (k + 1) cv5)).heap[w.heap.size + 1 + 1]? = some (Obj.cells (((((cbD L7).setIfInBounds 1 (.slice AA1 l1.length cc1)).setIfInBounds 8 (.slice AA2 l2.length cc2)).setIfInBounds 9 (.slice AA3 l3.length cc3)).setIfInBounds 10 (.slice Av5 (k + 1) cv5)) 29 (0, 0)) by
                  have h := blk_set HC5.out 10 (.slice Av5 (k + 1) cv5)
                  rw [set_twice] at h
                  exact h)
                have HZ6 := Lib.hid (blk_far HZ5.out (p := ⟨w.heap.size + 1 + 1, 10, none⟩) (by show w.heap.size ≠ w.heap.size + 1 + 1; omega) (.slice Av5 (k + 1) cv5))
                have HM6 := Lib.hid (HM5.out.set 10 (.slice Av5 (k + 1) cv5))
                have HO6 := Lib.hid (R_farC HO5.out (by have := HSC.out; exact this) 10 (.slice Av5 (k + 1) cv5))
                go_roundw
                case rel => exact ⟨k + 1, _, l ++ [(⟨y0, y1, y2, y3, y4, y5⟩ : S59)], s6, g6, by omega, by go_num, by rw [List.length_append, HL.out]; rfl, HE2, HQ6, HZ6, HC6, HM6, HO6⟩
                case measure => simp [intOf]; omega
              · obtain rfl : k = n := by omega
                have hE := HE.out
                rw [Nat.sub_self] at hE
                obtain ⟨AA4, cc4, rfl⟩ := Kd.R_slice HR.out
                obtain ⟨l4, hl4⟩ : ∃ l4, l4 = l := ⟨_, rfl⟩
                subst hl4
                obtain ⟨rA4, hr4⟩ : ∃ x, x = s := ⟨_, rfl⟩
                obtain ⟨fA4, hf4⟩ : ∃ x, x = g := ⟨_, rfl⟩
                subst hr4 hf4
                have HN4 := Lib.hid (show (l4, rA4, fA4) = manyR 6 portR rA3 fA3 from hE)
                have HQA4 := HS
                have HZA4 := HZ
                have HCA4 := HC
                have HRA4 := HR
                have HSX4 := HSW
                have HRA1 := Lib.hid (R_mb HRL1.out HMB.out HB1.out)
                have HRA2 := Lib.hid (R_mb HRL2.out HMB.out HB2.out)
                have HRA3 := Lib.hid (R_mb HRL3.out HMB.out HB3.out)
                have HB4 := Lib.hid (show w.heap.size + 3 ≤ S4.heap.size by have := HSC.out; omega)
                clear hE HE HS HZ HC HMB HR HSB HSZ HSW HSC HL hlt hk hn1 HRL1 HRL2 HRL3
                go_wp2_with fail
                try clear cc0 cf0
                refine (rlead' HQA4.out 3 (by decide)).mono ?_
                rintro e S5 ⟨n, sL, gL, hle, rfl, hn0, hn1, q, kk⟩
                have HQL := Lib.hid q
                have HZL := Lib.hid (kk.blk HZA4.out (by omega))
                have HCL := Lib.hid (show S5.heap[w.heap.size + 1 + 1]? = some (Obj.cells ((((((cbD L7).setIfInBounds 1 (.slice AA1 l1.length cc1)).setIfInBounds 8 (.slice AA2 l2.length cc2)).setIfInBounds 9 (.slice AA3 l3.length cc3)).setIfInBounds 10 (.slice AA4 l4.length cc4)).setIfInBounds 11 (.slice none 0 0)) 29 (0, 0)) by rw [set_self (((((cbD L7).setIfInBounds 1 (.slice AA1 l1.length cc1)).setIfInBounds 8 (.slice AA2 l2.length cc2)).setIfInBounds 9 (.slice AA3 l3.length cc3)).setIfInBounds 10 (.slice AA4 l4.length cc4)) 11 _ (by simp [cbD])]; exact kk.blk HCA4.out (by omega))
                have HRL1 := Lib.hid (R_kpx HRA1.out kk HSX1.out)
                have HRL2 := Lib.hid (R_kpx HRA2.out kk HSX2.out)
                have HRL3 := Lib.hid (R_kpx HRA3.out kk HSX3.out)
                have HRL4 := Lib.hid (R_kpx HRA4.out kk HSX4.out)
                have HSC := Lib.hid (show w.heap.size + 1 + 1 < S5.heap.size from blk_lt HCL.out)
                have HSW := Lib.hid (show w.heap.size + 1 < S5.heap.size by have := HSC.out; omega)
                have HLE := Lib.hid (show manyR 3 linkR rA4 fA4 = loopR linkR n [] sL gL by unfold manyR; rw [hle]; simp)
                clear q kk hle hn0 HQA4 HZA4 HCA4
                go_wp2_with fail
                go_loopw [13] (fun i wr => ∃ (k : Nat) (v : Value) (l : List S61) (s : List Int) (g : Bool), k ≤ n ∧ i = .int .i64 k ∧ l.length = k ∧ Hid (loopR linkR (n - k) l s g = manyR 3 linkR rA4 fA4) ∧ Hid (QSt w (w.heap.size + 1) A c b s g wr) ∧ Hid (wr.heap[w.heap.size]? = some (Obj.cells #[.int .i64 0, .slice none 0 0, .int .i64 0, .int .i64 0, .int .i64 0, .int .i64 0, .int .i64 0, .int .i64 0, .slice none 0 0, .slice none 0 0, .slice none 0 0, .slice none 0 0] 29 (0, 0))) ∧ Hid (wr.heap[w.heap.size + 1 + 1]? = some (Obj.cells ((((((cbD L7).setIfInBounds 1 (.slice AA1 l1.length cc1)).setIfInBounds 8 (.slice AA2 l2.length cc2)).setIfInBounds 9 (.slice AA3 l3.length cc3)).setIfInBounds 10 (.slice AA4 l4.length cc4)).setIfInBounds 11 v) 29 (0, 0))) ∧ Hid (Mb w S5 wr) ∧ Hid (Kd.R k61 61 wr S5.heap.size (fun _ => True) v l)) (fun i _ => n - (intOf i).toNat)
                case atStart => exact ⟨0, _, [], sL, gL, by omega, rfl, rfl, Lib.hid HLE.out.symm, HQL, HZL, HCL, Lib.hid (Mb.refl _ _), Lib.hid (Kd.R_nil _ _ _ _ _)⟩
                case round => as_aux_lemma =>
                  clear HQL HZL HCL HLE
                  obtain ⟨k, v, l, s, g, hk, rfl, hl, HE, HS, HZ, HC, HMB, HR⟩ := hrel
                  have HL := Lib.hid hl
                  clear hl
                  have HSB := Lib.hid (show S5.heap.size ≤ wr.heap.size from HMB.out.1)
                  have HSZ := Lib.hid (show w.heap.size + 3 ≤ wr.heap.size by have := HSB.out; have := HSC.out; omega)
                  by_cases hlt : k < n
                  · obtain ⟨Av, cv, rfl⟩ := Kd.R_slice HR.out
                    have HLT := Lib.hid (Kd.R_lt HR.out)
                    have HQ0 := Lib.hid (HS.out.below ((Below.refl wr.heap.size wr).alloc (Nat.le_refl _) (Obj.cells #[.int .i64 0, .slice none 0 0, .int .i64 0] 61)))
                    have HP0 := Lib.hid (blk_new wr (Obj.cells #[.int .i64 0, .slice none 0 0, .int .i64 0] 61))
                    have HM0 := Lib.hid (KpX.below (X := w.heap.size + 1) ((Below.refl wr.heap.size wr).alloc (Nat.le_refl _) (Obj.cells #[.int .i64 0, .slice none 0 0, .int .i64 0] 61)))
                    go_wp2_with fail
                    try clear cc0 cf0
                    refine (rnum' HQ0.out).mono ?_
                    rintro e U0 ⟨y0, s1, g1, hy, rfl, q, kk⟩
                    have HY0 := Lib.hid hy
                    have hp := kk.blk HP0.out (by have := HSZ.out; omega)
                    have cc0 : U0.cell? ⟨wr.heap.size, 0, none⟩ = some (.int .i64 0) := blk_cell hp 0
                    have cf0 := blk_frozen hp 0
                    have HQ1 := Lib.hid (q.far (p := ⟨wr.heap.size, 0, none⟩) (by have := HSZ.out; show wr.heap.size ≠ w.heap.size + 1; omega) (by have := HSZ.out; show w.heap.size ≤ wr.heap.size; omega) (.int .i64 y0))
                    have HP1 := Lib.hid (show (U0.setCell ⟨wr.heap.size, 0, none⟩ (.int .i64 y0)).heap[wr.heap.size]? = some (Obj.cells #[.int .i64 y0, .slice none 0 0, .int .i64 0] 61 (0, 0)) from blk_set hp 0 _)
                    have HM1 := Lib.hid ((HM0.out.trans kk).setNew (b := wr.heap.size) (Nat.le_refl _) 0 (.int .i64 y0))
                    clear hy q kk hp HQ0 HP0 HM0 
                    go_wp2_with fail
                    try clear cc0 cf0
                    refine (rnum' HQ1.out).mono ?_
                    rintro e U1 ⟨y1, s2, g2, hy, rfl, q, kk⟩
                    have HY1 := Lib.hid hy
                    have hp := kk.blk HP1.out (by have := HSZ.out; omega)
                    have cc0 : U1.cell? ⟨wr.heap.size, 2, none⟩ = some (.int .i64 0) := blk_cell hp 2
                    have cf0 := blk_frozen hp 2
                    have HQ2 := Lib.hid (q.far (p := ⟨wr.heap.size, 2, none⟩) (by have := HSZ.out; show wr.heap.size ≠ w.heap.size + 1; omega) (by have := HSZ.out; show w.heap.size ≤ wr.heap.size; omega) (.int .i64 y1))
                    have HP2 := Lib.hid (show (U1.setCell ⟨wr.heap.size, 2, none⟩ (.int .i64 y1)).heap[wr.heap.size]? = some (Obj.cells #[.int .i64 y0, .slice none 0 0, .int .i64 y1] 61 (0, 0)) from blk_set hp 2 _)
                    have HM2 := Lib.hid ((HM1.out.trans kk).setNew (b := wr.heap.size) (Nat.le_refl _) 2 (.int .i64 y1))
                    clear hy q kk hp HQ1 HP1 HM1 
                    have HUS := Lib.hid (show wr.heap.size < (U1.setCell ⟨wr.heap.size, 2, none⟩ (.int .i64 y1)).heap.size from blk_lt HP2.out)
                    go_wp2_with fail
                    try clear cc0 cf0
                    refine (rlist' HQ2.out).mono ?_
                    rintro e U2 ⟨vy, y2, s3, g3, hy, rfl, q, hry, hly, kk⟩
                    obtain ⟨Ay, cy, rfl⟩ := Kd.R_slice hry
                    have HY2 := Lib.hid hy
                    have hp := kk.blk HP2.out (by have := HSZ.out; omega)
                    have cc0 : U2.cell? ⟨wr.heap.size, 1, none⟩ = some (.slice none 0 0) := blk_cell hp 1
                    have cf0 := blk_frozen hp 1
                    have HQ3 := Lib.hid (q.far (p := ⟨wr.heap.size, 1, none⟩) (by have := HSZ.out; show wr.heap.size ≠ w.heap.size + 1; omega) (by have := HSZ.out; show w.heap.size ≤ wr.heap.size; omega) (.slice Ay y2.length cy))
                    have HP3 := Lib.hid (show (U2.setCell ⟨wr.heap.size, 1, none⟩ (.slice Ay y2.length cy)).heap[wr.heap.size]? = some (Obj.cells #[.int .i64 y0, .slice Ay y2.length cy, .int .i64 y1] 61 (0, 0)) from blk_set hp 1 _)
                    have HM3 := Lib.hid ((HM2.out.trans kk).setNew (b := wr.heap.size) (Nat.le_refl _) 1 (.slice Ay y2.length cy))
                    have HRY := Lib.hid (Kd.R_mono (Kd.R_far (Kd.R_bound hry) (p := ⟨wr.heap.size, 1, none⟩) (fun k hk he => by have he' : k = wr.heap.size := he; have := HUS.out; have := hk.2.1; omega) (.slice Ay y2.length cy)) (fun k hk => (by have := HUS.out; have := hk.2.1; omega : wr.heap.size ≤ k)))
                    clear hy q hry kk hp HQ2 HP2 HM2
                    go_upto_region 48 with fail
                    generalize hGT : U2.setCell ⟨wr.heap.size, 1, none⟩ (.slice Ay y2.length cy) = T at *
                    clear hGT cc0 cf0
                    have p0 := blk_cell HP3.out 0
                    have p1 := blk_cell HP3.out 1
                    have p2 := blk_cell HP3.out 2
                    have HYY := Lib.hid (show linkR s g = ((⟨y0, y2, y1⟩ : S61), s3, g3) by simp only [linkR, ← HY0.out, ← HY1.out, ← HY2.out])
                    have HE2 := Lib.hid ((loopR_end linkR n k hlt l s g).symm.trans HE.out)
                    rw [HYY.out] at HE2
                    dsimp only at HE2
                    have HRT := Lib.hid (R_kpx HR.out HM3.out HSW.out)
                    have HCT := Lib.hid (HM3.out.blk HC.out (by omega))
                    have HZT := Lib.hid (HM3.out.blk HZ.out (by omega))
                    have HMT := Lib.hid (HMB.out.kpx HM3.out)
                    have HST := Lib.hid (Nat.le_trans HSB.out HM3.out.1)
                    have m0 : T.cell? ⟨w.heap.size + 1 + 1, 11, none⟩ = some (.slice Av l.length cv) := by rw [blk_cell HCT.out 11]; simp [cbD]
                    clear HS HE HR HC HZ HMB HM3

                    iterate 13 (first | go_values | go_step)
                    with_reducible refine gate_z (b := .append) (xs := #[.tmp 115, .tmp 117]) rfl ?_
                    at_builtin
                    refine Kd.R_append k61 (w0 := T) S5.heap.size rfl (.tmp 115) (.tmp 117) 27 61 (.agg #[.int .i64 0, .slice none 0 0, .int .i64 0]) 40 rfl Try.underlying27 info61 rfl (by decide) (by omega) (.slice Av l.length cv) l (⟨y0, y2, y1⟩ : S61) [.int .i64 y0, .slice Ay y2.length cy, .int .i64 y1] (fun _ => True) (fun k => wr.heap.size ≤ k) rfl (by first | rfl | (rw [World.size_setCell]; rfl)) (k61_mkM _ _ _ _ (Kd.R_lower HRY.out (Nat.le_trans HSB.out (Nat.le_of_lt HUS.out)))) (fun k hk => ⟨trivial, fun he => by have := HLT.out k he.symm; omega⟩) (fun _ _ => trivial) HRT.out (Below.refl _ _) HST.out (by have := HL.out; omega) ?_
                    intro v5 W5 ho5 hb5 hg5 hat5
                    obtain ⟨Av5, cv5, hv5⟩ := Kd.R_slice ho5
                    obtain rfl : v5 = .slice Av5 (k + 1) cv5 := (by rw [hv5, List.length_append, HL.out]; rfl)
                    clear hv5
                    have HO5 := Lib.hid ho5
                    have HQ5 := Lib.hid (HQ3.out.belowX hb5 HSW.out)
                    have HC5 := Lib.hid ((hb5.block _ HSC.out).trans HCT.out)
                    have HZ5 := Lib.hid ((hb5.block _ (by have := HSC.out; omega)).trans HZT.out)
                    have HM5 := Lib.hid (HMT.out.below hb5)
                    have c5 : W5.cell? ⟨w.heap.size + 1 + 1, 11, none⟩ = some (.slice Av l.length cv) := (by rw [blk_cell HC5.out 11]; simp [cbD])
                    have f5 := blk_frozen HC5.out 11
                    clear ho5 hb5 hg5 hat5
                    go_wp2_with fail
                    clear m0 c5 f5 HRT HCT HZT HMT HQ3
                    have HQ6 := Lib.hid (HQ5.out.far (p := ⟨w.heap.size + 1 + 1, 11, none⟩) (by simp) (by show w.heap.size ≤ w.heap.size + 1 + 1; omega) (.slice Av5 (k + 1) cv5))
                    have HC6 := Lib.hid (show (W5.setCell ⟨w.heap.size + 1 + 1, 11, none⟩ (.slice Av5 (k + 1) cv5)).heap[w.heap.size + 1 + 1]? = some (Obj.cells ((((((cbD L7).setIfInBounds 1 (.slice AA1 l1.length cc1)).setIfInBounds 8 (.slice AA2 l2.length cc2)).setIfInBounds 9 (.slice AA3 l3.length cc3)).setIfInBounds 10 (.slice AA4 l4.length cc4)).setIfInBounds 11 (.slice Av5 (k + 1) cv5)) 29 (0, 0)) by
                      have h := blk_set HC5.out 11 (.slice Av5 (k + 1) cv5)
                      rw [set_twice] at h
                      exact h)
                    have HZ6 := Lib.hid (blk_far HZ5.out (p := ⟨w.heap.size + 1 + 1, 11, none⟩) (by show w.heap.size ≠ w.heap.size + 1 + 1; omega) (.slice Av5 (k + 1) cv5))
                    have HM6 := Lib.hid (HM5.out.set 11 (.slice Av5 (k + 1) cv5))
                    have HO6 := Lib.hid (R_farC HO5.out (by have := HSC.out; exact this) 11 (.slice Av5 (k + 1) cv5))
                    go_roundw
                    case rel => exact ⟨k + 1, _, l ++ [(⟨y0, y2, y1⟩ : S61)], s3, g3, by omega, by go_num, by rw [List.length_append, HL.out]; rfl, HE2, HQ6, HZ6, HC6, HM6, HO6⟩
                    case measure => simp [intOf]; omega
                  · obtain rfl : k = n := by omega
                    have hE := HE.out
                    rw [Nat.sub_self] at hE
                    obtain ⟨AA5, cc5, rfl⟩ := Kd.R_slice HR.out
                    obtain ⟨l5, hl5⟩ : ∃ l5, l5 = l := ⟨_, rfl⟩
                    subst hl5
                    obtain ⟨rA5, hr5⟩ : ∃ x, x = s := ⟨_, rfl⟩
                    obtain ⟨fA5, hf5⟩ : ∃ x, x = g := ⟨_, rfl⟩
                    subst hr5 hf5
                    have HN5 := Lib.hid (show (l5, rA5, fA5) = manyR 3 linkR rA4 fA4 from hE)
                    have HQA5 := HS
                    have HZA5 := HZ
                    have HCA5 := HC
                    have HRA5 := HR
                    have HSX5 := HSW
                    have HRA1 := Lib.hid (R_mb HRL1.out HMB.out HB1.out)
                    have HRA2 := Lib.hid (R_mb HRL2.out HMB.out HB2.out)
                    have HRA3 := Lib.hid (R_mb HRL3.out HMB.out HB3.out)
                    have HRA4 := Lib.hid (R_mb HRL4.out HMB.out HB4.out)
                    have HB5 := Lib.hid (show w.heap.size + 3 ≤ S5.heap.size by have := HSC.out; omega)
                    clear hE HE HS HZ HC HMB HR HSB HSZ HSW HSC HL hlt hk hn1 HRL1 HRL2 HRL3 HRL4
                    obtain ⟨W9, hW9⟩ : ∃ W9, W9 = wr := ⟨_, rfl⟩
                    clear hW9 W9
                    have HCF := HCA5
                    have HZF := HZA5
                    have HQF := HQA5
                    have HBQ := Lib.hid (show bodyQ (b.drop 4) true = ((L7, l1, l2, l3, l4, l5), rA5, fA5) by
                      unfold bodyQ rseq
                      rw [HNU.out]
                      dsimp only
                      rw [← HN1.out]
                      dsimp only
                      rw [← HN2.out]
                      dsimp only
                      rw [← HN3.out]
                      dsimp only
                      rw [← HN4.out]
                      dsimp only
                      rw [← HN5.out])
                    have x0 : wr.cell? ⟨w.heap.size + 1, 0, none⟩ = some (.slice A b.length c) := blk_cell HQF.out.box 0
                    have x1 : wr.cell? ⟨w.heap.size + 1, 1, none⟩ = some (.int .i64 ((b.length - rA5.length : Nat) : Int)) := blk_cell HQF.out.box 1
                    have x2 : wr.cell? ⟨w.heap.size + 1, 2, none⟩ = some (.bool fA5) := blk_cell HQF.out.box 2
                    have hsl : rA5.length ≤ b.length := HQF.out.suf.length_le
                    obtain ⟨a, ha⟩ : ∃ a, a = b.length - rA5.length := ⟨_, rfl⟩
                    rw [← ha] at x1
                    clear HQA5 HZA5 HCA5
                    by_cases hok : fA5 = true ∧ rA5 = []
                    · obtain ⟨rfl, rfl⟩ := hok
                      have e9 : ((a : Int) != (b.length : Int)) = false := by
                        simp at ha
                        subst ha
                        simp
                      have hdec : decQ b = (⟨L7.getD 0 0, l1, L7.getD 1 0, L7.getD 2 0, L7.getD 3 0, L7.getD 4 0, L7.getD 5 0, L7.getD 6 0, l2, l3, l4, l5⟩, 0) := by
                        unfold decQ
                        rw [if_pos HH.out, HBQ.out, if_pos ⟨rfl, rfl⟩]
                        rfl
                      clear ha hsl
                      have hcf : wr.heap[w.heap.size + 1 + 1]? = some (Obj.cells #[.int .i64 (L7.getD 0 0), .slice AA1 l1.length cc1, .int .i64 (L7.getD 1 0), .int .i64 (L7.getD 2 0), .int .i64 (L7.getD 3 0), .int .i64 (L7.getD 4 0), .int .i64 (L7.getD 5 0), .int .i64 (L7.getD 6 0), .slice AA2 l2.length cc2, .slice AA3 l3.length cc3, .slice AA4 l4.length cc4, .slice AA5 l5.length cc5] 29 (0, 0)) := HCF.out
                      generalize L7.getD 0 0 = x0 at hcf hdec
                      generalize L7.getD 1 0 = x1 at hcf hdec
                      generalize L7.getD 2 0 = x2 at hcf hdec
                      generalize L7.getD 3 0 = x3 at hcf hdec
                      generalize L7.getD 4 0 = x4 at hcf hdec
                      generalize L7.getD 5 0 = x5 at hcf hdec
                      generalize L7.getD 6 0 = x6 at hcf hdec
                      go_upto_region 51 with fail
                      iterate 1 (first | go_values | go_step)
                      refine wpList_load_row rfl 29 (.tmp 5) rfl (w.heap.size + 1 + 1) rfl 29 #[.int .i64 x0, .slice AA1 l1.length cc1, .int .i64 x1, .int .i64 x2, .int .i64 x3, .int .i64 x4, .int .i64 x5, .int .i64 x6, .slice AA2 l2.length cc2, .slice AA3 l3.length cc3, .slice AA4 l4.length cc4, .slice AA5 l5.length cc5] (0, 0) _ hcf Try.underlying29 rfl cfg_size ?_
                      simp only [Act.put, List.setIfInBounds_toArray, List.set_cons_zero, List.set_cons_succ]
                      refine wpList_store_row rfl 29 (.tmp 2) (.tmp 131) rfl w.heap.size #[.int .i64 x0, .slice AA1 l1.length cc1, .int .i64 x1, .int .i64 x2, .int .i64 x3, .int .i64 x4, .int .i64 x5, .int .i64 x6, .slice AA2 l2.length cc2, .slice AA3 l3.length cc3, .slice AA4 l4.length cc4, .slice AA5 l5.length cc5] rfl rfl 29 _ HZF.out cfg_size rfl (by simp [Value.oneCell']) ?_
                      obtain ⟨hF, hK, hB⟩ := row_set HZF.out (cs := #[.int .i64 x0, .slice AA1 l1.length cc1, .int .i64 x1, .int .i64 x2, .int .i64 x3, .int .i64 x4, .int .i64 x5, .int .i64 x6, .slice AA2 l2.length cc2, .slice AA3 l3.length cc3, .slice AA4 l4.length cc4, .slice AA5 l5.length cc5]) HQF.out.bel
                      generalize wr.setRow w.heap.size #[.int .i64 x0, .slice AA1 l1.length cc1, .int .i64 x1, .int .i64 x2, .int .i64 x3, .int .i64 x4, .int .i64 x5, .int .i64 x6, .slice AA2 l2.length cc2, .slice AA3 l3.length cc3, .slice AA4 l4.length cc4, .slice AA5 l5.length cc5] = FW at hF hK hB ⊢
                      simp only [Act.put, List.setIfInBounds_toArray, List.set_cons_zero, List.set_cons_succ]
                      go_wp2_with fail
                      refine bodyPost_ret (v := .tuple #[.agg #[.int .i64 x0, .slice AA1 l1.length cc1, .int .i64 x1, .int .i64 x2, .int .i64 x3, .int .i64 x4, .int .i64 x5, .int .i64 x6, .slice AA2 l2.length cc2, .slice AA3 l3.length cc3, .slice AA4 l4.length cc4, .slice AA5 l5.length cc5], .int .i64 0]) (res_cfgQ (g := w.heap.size) rfl rfl hF rfl) rfl ?_
                      try rw [hdec]
                      exact rdec_ok HRA1.out HRA2.out HRA3.out HRA4.out HRA5.out hK (by have := HB1.out; have := HB2.out; have := HB3.out; have := HB4.out; have := HB5.out; omega) hB
                    · have hdec : decQ b = (noCfg, 20) := by
                        unfold decQ
                        rw [if_pos HH.out, HBQ.out, if_neg hok]
                      cases fA5
                      · go_upto_region 50 with fail
                        iterate 4 (first | go_values | go_step)
                        refine wpList_store_row rfl 29 (.tmp 2) (.tmp 130) rfl w.heap.size #[.int .i64 0, .slice none 0 0, .int .i64 0, .int .i64 0, .int .i64 0, .int .i64 0, .int .i64 0, .int .i64 0, .slice none 0 0, .slice none 0 0, .slice none 0 0, .slice none 0 0] rfl rfl 29 _ HZF.out cfg_size rfl (by simp [Value.oneCell']) ?_
                        obtain ⟨hF, hK, hB⟩ := row_set HZF.out (cs := #[.int .i64 0, .slice none 0 0, .int .i64 0, .int .i64 0, .int .i64 0, .int .i64 0, .int .i64 0, .int .i64 0, .slice none 0 0, .slice none 0 0, .slice none 0 0, .slice none 0 0]) HQF.out.bel
                        generalize wr.setRow w.heap.size #[.int .i64 0, .slice none 0 0, .int .i64 0, .int .i64 0, .int .i64 0, .int .i64 0, .int .i64 0, .int .i64 0, .slice none 0 0, .slice none 0 0, .slice none 0 0, .slice none 0 0] = FW at hF hK hB ⊢
                        simp only [Act.put, List.setIfInBounds_toArray, List.set_cons_zero, List.set_cons_succ]
                        go_wp2_with fail
                        refine bodyPost_ret (v := .tuple #[.agg #[.int .i64 0, .slice none 0 0, .int .i64 0, .int .i64 0, .int .i64 0, .int .i64 0, .int .i64 0, .int .i64 0, .slice none 0 0, .slice none 0 0, .slice none 0 0, .slice none 0 0], .int .i64 20]) (res_cfgQ (g := w.heap.size) rfl rfl hF rfl) rfl ?_
                        try rw [hdec]
                        exact rdec_z hB
                      · have e9 : ((a : Int) != (b.length : Int)) = true := by
                          have : 0 < rA5.length := by
                            rcases rA5 with _ | ⟨x, r5⟩
                            · exact absurd ⟨rfl, rfl⟩ hok
                            · simp
                          have hne : ¬ ((a : Int) = (b.length : Int)) := by omega
                          simpa using hne
                        go_upto_region 50 with fail
                        iterate 4 (first | go_values | go_step)
                        refine wpList_store_row rfl 29 (.tmp 2) (.tmp 130) rfl w.heap.size #[.int .i64 0, .slice none 0 0, .int .i64 0, .int .i64 0, .int .i64 0, .int .i64 0, .int .i64 0, .int .i64 0, .slice none 0 0, .slice none 0 0, .slice none 0 0, .slice none 0 0] rfl rfl 29 _ HZF.out cfg_size rfl (by simp [Value.oneCell']) ?_
                        obtain ⟨hF, hK, hB⟩ := row_set HZF.out (cs := #[.int .i64 0, .slice none 0 0, .int .i64 0, .int .i64 0, .int .i64 0, .int .i64 0, .int .i64 0, .int .i64 0, .slice none 0 0, .slice none 0 0, .slice none 0 0, .slice none 0 0]) HQF.out.bel
                        generalize wr.setRow w.heap.size #[.int .i64 0, .slice none 0 0, .int .i64 0, .int .i64 0, .int .i64 0, .int .i64 0, .int .i64 0, .int .i64 0, .slice none 0 0, .slice none 0 0, .slice none 0 0, .slice none 0 0] = FW at hF hK hB ⊢
                        simp only [Act.put, List.setIfInBounds_toArray, List.set_cons_zero, List.set_cons_succ]
                        go_wp2_with fail
                        refine bodyPost_ret (v := .tuple #[.agg #[.int .i64 0, .slice none 0 0, .int .i64 0, .int .i64 0, .int .i64 0, .int .i64 0, .int .i64 0, .int .i64 0, .slice none 0 0, .slice none 0 0, .slice none 0 0, .slice none 0 0], .int .i64 20]) (res_cfgQ (g := w.heap.size) rfl rfl hF rfl) rfl ?_
                        try rw [hdec]
                        exact rdec_z hB

  have heq2 := heq.trans (decide_eq_false hh)
  clear heq
  go_enter Try.func12, Try.ntmps12
  have hdec : decQ b = (noCfg, 20) := by
    unfold decQ
    rw [if_neg hh]
  have HZ0 : (w.alloc (Obj.cells #[.int .i64 0, .slice none 0 0, .int .i64 0, .int .i64 0, .int .i64 0, .int .i64 0, .int .i64 0, .int .i64 0, .slice none 0 0, .slice none 0 0, .slice none 0 0, .slice none 0 0] 29 (0, 0))).heap[w.heap.size]? = _ := blk_new w (Obj.cells #[.int .i64 0, .slice none 0 0, .int .i64 0, .int .i64 0, .int .i64 0, .int .i64 0, .int .i64 0, .int .i64 0, .slice none 0 0, .slice none 0 0, .slice none 0 0, .slice none 0 0] 29 (0, 0))
  have HB0 : Below w.heap.size w (w.alloc (Obj.cells #[.int .i64 0, .slice none 0 0, .int .i64 0, .int .i64 0, .int .i64 0, .int .i64 0, .int .i64 0, .int .i64 0, .slice none 0 0, .slice none 0 0, .slice none 0 0, .slice none 0 0] 29 (0, 0))) := (Below.refl w.heap.size w).alloc (Nat.le_refl _) _
  go_wp2_with fail
  refine bodyPost_ret (v := .tuple #[.agg #[.int .i64 0, .slice none 0 0, .int .i64 0, .int .i64 0, .int .i64 0, .int .i64 0, .int .i64 0, .int .i64 0, .slice none 0 0, .slice none 0 0, .slice none 0 0, .slice none 0 0], .int .i64 20]) (res_cfgQ (g := w.heap.size) rfl rfl HZ0 rfl) rfl ?_
  rw [hdec]
  exact rdec_z HB0
end Go.Proofs.Ytehbabkgaecoaaa
