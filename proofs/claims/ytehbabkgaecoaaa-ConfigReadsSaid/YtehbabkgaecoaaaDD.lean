/- config.Decode itself. -/
import Derived.Test.YtehbabkgaecoaaaDP
import Derived.Lib.Bytes
import Derived.Laws.ResultCell
import Derived.Laws.EntriesVeiled
namespace Go.Proofs.Ytehbabkgaecoaaa
set_option linter.unusedVariables false
set_option linter.unusedSimpArgs false
open Go.RowKit Go.Shelf Go.Proofs.YtehbabkgaecoaaaW.PrintWords Go.Proofs.YtehbabkgaecoaaaW.PrintLast

theorem bytes_back (l : List Int) (hl : ∀ x ∈ l, Byte x) : (strOfNums l).data.toList.map (fun u : UInt8 => (u.toNat : Int)) = l := by
  rw [strOfNums_data, List.map_map]
  conv => rhs; rw [← List.map_id l]
  refine List.map_congr_left fun x hx => ?_
  have h0 := (hl x hx).1
  have h1 := (hl x hx).2
  show (((UInt8.ofNat x.toNat).toNat : Nat) : Int) = x
  rw [UInt8.toNat_ofNat']
  omega
theorem head_eq (l : List Int) (hl : ∀ x ∈ l, Byte x) : ((strOfNums l).toList == ([82, 79, 84, 65] : List UInt8)) = decide (l = [82, 79, 84, 65]) := by
  have e0 : ([82, 79, 84, 65] : List UInt8) = (strOfNums [82, 79, 84, 65]).data.toList := rfl
  rw [e0, Bool.eq_iff_iff]
  simp only [beq_iff_eq, decide_eq_true_eq]
  rw [show (strOfNums l).toList = (strOfNums l).data.toList from (Lib.strOfNums_toList l).trans rfl]
  constructor
  · intro h
    have hb : ∀ x ∈ ([82, 79, 84, 65] : List Int), Byte x := by intro x hx; simp at hx; unfold Byte; omega
    rw [← bytes_back l hl, ← bytes_back _ hb]
    exact congrArg _ h
  · rintro rfl; rfl
/-- Numbers, one behind the other. -/
def numsD : Nat → List Int → Bool → List Int × List Int × Bool
  | 0, r, f => ([], r, f)
  | k + 1, r, f => ((numsD k r f).1 ++ [(nextD (numsD k r f).2.1 (numsD k r f).2.2).1], (nextD (numsD k r f).2.1 (numsD k r f).2.2).2)
/-- What Decode makes of the bytes behind the head. -/
def bodyD (r : List Int) : S29 × List Int × Bool :=
  let n := numsD 7 r true
  let o := listD n.2.1 n.2.2
  let p := manyD eachP [] o.2.1 o.2.2
  let v := manyD eachW [] p.2.1 p.2.2
  let q := manyD eachQ [] v.2.1 v.2.2
  let k := manyD eachK [] q.2.1 q.2.2
  (⟨n.1.getD 0 0, o.1, n.1.getD 1 0, n.1.getD 2 0, n.1.getD 3 0, n.1.getD 4 0, n.1.getD 5 0, n.1.getD 6 0, p.1, v.1, q.1, k.1⟩, k.2)
def noCfg : S29 := ⟨0, [], 0, 0, 0, 0, 0, 0, [], [], [], []⟩
/-- What Decode tells. -/
def decD (b : List Int) : S29 × Int :=
  if b.take 4 = [82, 79, 84, 65] then (if (bodyD (b.drop 4)).2.2 = true ∧ (bodyD (b.drop 4)).2.1 = [] then ((bodyD (b.drop 4)).1, 0) else (noCfg, 20)) else (noCfg, 20)
/-- The configuration while its seven numbers are read. -/
def cbD (l : List Int) : Array Value := #[.int .i64 (l.getD 0 0), .slice none 0 0, .int .i64 (l.getD 1 0), .int .i64 (l.getD 2 0), .int .i64 (l.getD 3 0), .int .i64 (l.getD 4 0), .int .i64 (l.getD 5 0), .int .i64 (l.getD 6 0), .slice none 0 0, .slice none 0 0, .slice none 0 0, .slice none 0 0]
def pbD (w : World) : Array Value := #[.pointer (some ⟨w.heap.size + 1 + 1 + 1 + 1 + 1 + 1, 0, none⟩), .pointer (some ⟨w.heap.size + 1 + 1 + 1 + 1 + 1 + 1, 2, none⟩), .pointer (some ⟨w.heap.size + 1 + 1 + 1 + 1 + 1 + 1, 3, none⟩), .pointer (some ⟨w.heap.size + 1 + 1 + 1 + 1 + 1 + 1, 4, none⟩), .pointer (some ⟨w.heap.size + 1 + 1 + 1 + 1 + 1 + 1, 5, none⟩), .pointer (some ⟨w.heap.size + 1 + 1 + 1 + 1 + 1 + 1, 6, none⟩), .pointer (some ⟨w.heap.size + 1 + 1 + 1 + 1 + 1 + 1, 7, none⟩)]
def offD (k : Nat) : Nat := if k = 0 then 0 else k + 1
theorem cbD_set (l : List Int) (v : Int) (h : l.length < 7) : (cbD l).setIfInBounds (offD l.length) (.int .i64 v) = cbD (l ++ [v]) := by
  match l, h with
  | [], _ => rfl
  | [_], _ => rfl
  | [_, _], _ => rfl
  | [_, _, _], _ => rfl
  | [_, _, _, _], _ => rfl
  | [_, _, _, _, _], _ => rfl
  | [_, _, _, _, _, _], _ => rfl
  | _ :: _ :: _ :: _ :: _ :: _ :: _ :: _, h => exact absurd h (by simp)
/-- The world in which Decode's own loop begins. -/
def W7D (w : World) (v : Value) : World :=
  (((((((w.alloc (Obj.cells #[.int .i64 0, .slice none 0 0, .int .i64 0, .int .i64 0, .int .i64 0, .int .i64 0, .int .i64 0, .int .i64 0, .slice none 0 0, .slice none 0 0, .slice none 0 0, .slice none 0 0] 29 (0, 0))).alloc (Obj.cells #[v] 22 (0, 0))).alloc (Obj.cells #[.bool true] 4 (0, 0))).alloc (Obj.cells #[Value.func (.func 36) #[] #[.pointer (some ⟨w.heap.size + 1 + 1, 0, none⟩), .pointer (some ⟨w.heap.size + 1, 0, none⟩)]] 67 (0, 0))).alloc (Obj.cells #[Value.func (.func 37) #[] #[.pointer (some ⟨w.heap.size + 1 + 1 + 1, 0, none⟩), .pointer (some ⟨w.heap.size + 1 + 1, 0, none⟩)]] 72 (0, 0))).alloc (Obj.cells #[Value.func (.func 38) #[] #[.pointer (some ⟨w.heap.size + 1 + 1 + 1 + 1, 0, none⟩), .pointer (some ⟨w.heap.size + 1 + 1 + 1, 0, none⟩)]] 68 (0, 0))).alloc (Obj.cells #[.int .i64 0, .slice none 0 0, .int .i64 0, .int .i64 0, .int .i64 0, .int .i64 0, .int .i64 0, .int .i64 0, .slice none 0 0, .slice none 0 0, .slice none 0 0, .slice none 0 0] 29 (0, 0))).alloc (Obj.cells (pbD w) 73 (0, 0))
theorem alloc_old (W : World) (o : Obj) (i : Nat) (h : i < W.heap.size) : (W.alloc o).heap[i]? = W.heap[i]? := ((Below.refl W.heap.size W).alloc (Nat.le_refl _) o).block i h
theorem alloc_new' (W : World) (o : Obj) (i : Nat) (h : i = W.heap.size) : (W.alloc o).heap[i]? = some o := by subst h; exact blk_new W o
theorem dec_init (w : World) (A : Option Addr) (c n : Nat) (r : List Int) (hn : r.length = n) (hC : Kd.C kU w A r.length r) (hc : r.length ≤ c) (hb : ∀ x ∈ r, Byte x) : DSt w r true (W7D w (.slice A n c)) ∧ (W7D w (.slice A n c)).heap[w.heap.size]? = some (Obj.cells #[.int .i64 0, .slice none 0 0, .int .i64 0, .int .i64 0, .int .i64 0, .int .i64 0, .int .i64 0, .int .i64 0, .slice none 0 0, .slice none 0 0, .slice none 0 0, .slice none 0 0] 29 (0, 0)) ∧ (W7D w (.slice A n c)).heap[w.heap.size + 6]? = some (Obj.cells (cbD []) 29 (0, 0)) ∧ (W7D w (.slice A n c)).heap[w.heap.size + 7]? = some (Obj.cells (pbD w) 73 (0, 0)) := by
  subst hn
  refine ⟨⟨?_, ⟨A, c, ?_, hC, hc⟩, ?_, ?_, ?_, ?_, hb⟩, ?_, ?_, ?_⟩
  · unfold W7D
    repeat (rw [alloc_old _ _ _ (by (try simp only [World.size_alloc]); omega)])
    exact alloc_new' _ _ _ (by (try simp only [World.size_alloc]) <;> omega)
  · unfold W7D
    repeat (rw [alloc_old _ _ _ (by (try simp only [World.size_alloc]); omega)])
    exact alloc_new' _ _ _ (by (try simp only [World.size_alloc]) <;> omega)
  · unfold W7D
    repeat (rw [alloc_old _ _ _ (by (try simp only [World.size_alloc]); omega)])
    exact alloc_new' _ _ _ (by (try simp only [World.size_alloc]) <;> omega)
  · unfold W7D
    repeat (rw [alloc_old _ _ _ (by (try simp only [World.size_alloc]); omega)])
    exact alloc_new' _ _ _ (by (try simp only [World.size_alloc]) <;> omega)
  · unfold W7D
    repeat (rw [alloc_old _ _ _ (by (try simp only [World.size_alloc]); omega)])
    exact alloc_new' _ _ _ (by (try simp only [World.size_alloc]) <;> omega)
  · unfold W7D
    exact ((((((((Below.refl w.heap.size w).alloc (by simp) _).alloc (by simp) _).alloc (by simp; omega) _).alloc (by simp; omega) _).alloc (by simp; omega) _).alloc (by simp; omega) _).alloc (by simp; omega) _).alloc (by simp; omega) _
  · unfold W7D
    repeat (rw [alloc_old _ _ _ (by (try simp only [World.size_alloc]); omega)])
    exact alloc_new' _ _ _ (by (try simp only [World.size_alloc]) <;> omega)
  · unfold W7D
    repeat (rw [alloc_old _ _ _ (by (try simp only [World.size_alloc]); omega)])
    exact alloc_new' _ _ _ (by (try simp only [World.size_alloc]) <;> omega)
  · unfold W7D
    repeat (rw [alloc_old _ _ _ (by (try simp only [World.size_alloc]); omega)])
    exact alloc_new' _ _ _ (by (try simp only [World.size_alloc]) <;> omega)
/-- What lies behind Decode's own variables is as it was. -/
def Mv (w W V : World) : Prop := ∀ i, w.heap.size + 8 ≤ i → i < W.heap.size → V.heap[i]? = W.heap[i]?
theorem R_mv {α : Type} {d : Kd α} {e base : Nat} {ok : Nat → Prop} {v : Value} {xs : List α} {w W V : World} (h : Kd.R d e W base ok v xs) (hb : w.heap.size + 8 ≤ base) (m : Mv w W V) : Kd.R d e V base ok v xs :=
  Kd.R_mono (Kd.R_step (Kd.R_bound h) (fun k ho hk => m k (Nat.le_trans hb ho.2.1) hk)) (fun _ hk => hk.1)
theorem R_bd {α : Type} {d : Kd α} {e base : Nat} {ok : Nat → Prop} {v : Value} {xs : List α} {W : World} (h : Kd.R d e W base ok v xs) : Kd.R d e W base (fun k => k < W.heap.size) v xs :=
  Kd.R_mono (Kd.R_bound h) (fun _ hk => hk.2.2.1)
theorem dec_end {w W1 W2 W3 W4 W5 V : World} {b0 : Nat} {ok1 : Nat → Prop} {l1 : List Int} {l2 : List S57} {l3 : List (List Int)} {l4 : List S59} {l5 : List S61} {A1 A2 A3 A4 A5 : Option Addr} {c1 c2 c3 c4 c5 : Nat} (hb0 : w.heap.size + 8 ≤ b0) (s1 : w.heap.size + 8 ≤ W1.heap.size) (s12 : W1.heap.size ≤ W2.heap.size) (s23 : W2.heap.size ≤ W3.heap.size) (s34 : W3.heap.size ≤ W4.heap.size)
    (h1 : Kd.R kI 3 W1 b0 ok1 (.slice A1 l1.length c1) l1) (h2 : Kd.R k57 57 W2 W1.heap.size (fun _ => True) (.slice A2 l2.length c2) l2) (h3 : Kd.R (Kd.slice 3 kI) 23 W3 W2.heap.size (fun _ => True) (.slice A3 l3.length c3) l3) (h4 : Kd.R k59 59 W4 W3.heap.size (fun _ => True) (.slice A4 l4.length c4) l4) (h5 : Kd.R k61 61 W5 W4.heap.size (fun _ => True) (.slice A5 l5.length c5) l5)
    (m2 : Mv w W1 W2) (m3 : Mv w W2 W3) (m4 : Mv w W3 W4) (m5 : Mv w W4 W5) (mV : Mv w W5 V) (x0 x2 x3 x4 x5 x6 x7 : Int) : OwnCfg V w.heap.size ⟨x0, l1, x2, x3, x4, x5, x6, x7, l2, l3, l4, l5⟩ A1 A2 A3 A4 A5 c1 c2 c3 c4 c5 := by
  refine ⟨W2.heap.size, W4.heap.size, by omega, by omega, ?_, ?_, ?_, ?_, ?_⟩
  · exact Kd.R_mono (Kd.R_lower (R_mv (R_mv (R_mv (R_mv (R_mv (R_bd h1) hb0 m2) hb0 m3) hb0 m4) hb0 m5) hb0 mV) (by omega)) (fun k hk => Nat.lt_of_lt_of_le hk s12)
  · exact Kd.R_lower (R_mv (R_mv (R_mv (R_mv h2 s1 m3) s1 m4) s1 m5) s1 mV) (by omega)
  · exact Kd.R_mono (R_mv (R_mv (R_mv (R_bd h3) (by omega) m4) (by omega) m5) (by omega) mV) (fun k hk => Nat.lt_of_lt_of_le hk s34)
  · exact Kd.R_lower (R_mv (R_mv h4 (by omega) m5) (by omega) mV) (by omega)
  · exact R_mv h5 (by omega) mV
theorem own_none (W : World) (s : Nat) : OwnCfg W s noCfg none none none none none 0 0 0 0 0 :=
  ⟨s, s, Nat.le_refl _, Nat.le_refl _, Kd.R_nil _ _ _ _ _, Kd.R_nil _ _ _ _ _, Kd.R_nil _ _ _ _ _, Kd.R_nil _ _ _ _ _, Kd.R_nil _ _ _ _ _⟩
/-- What Decode leaves: a configuration in memory of its own, and the error's number. -/
def DecPost (w : World) (R : S29 × Int) (e : Ending) (w' : World) : Prop := ∃ (A1' A8' A9' A10' A11' : Option Addr) (c1' c8' c9' c10' c11' : Nat), e = .returned (.tuple #[.agg #[.int .i64 R.1.f0, .slice A1' R.1.f1.length c1', .int .i64 R.1.f2, .int .i64 R.1.f3, .int .i64 R.1.f4, .int .i64 R.1.f5, .int .i64 R.1.f6, .int .i64 R.1.f7, .slice A8' R.1.f8.length c8', .slice A9' R.1.f9.length c9', .slice A10' R.1.f10.length c10', .slice A11' R.1.f11.length c11'], .int .i64 R.2]) ∧ OwnCfg w' w.heap.size R.1 A1' A8' A9' A10' A11' c1' c8' c9' c10' c11' ∧ Below w.heap.size w w'
theorem decpost_ok {w V : World} {x0 x2 x3 x4 x5 x6 x7 : Int} {l1 : List Int} {l2 : List S57} {l3 : List (List Int)} {l4 : List S59} {l5 : List S61} {A1 A2 A3 A4 A5 : Option Addr} {c1 c2 c3 c4 c5 : Nat} {z : Int} (h : OwnCfg V w.heap.size ⟨x0, l1, x2, x3, x4, x5, x6, x7, l2, l3, l4, l5⟩ A1 A2 A3 A4 A5 c1 c2 c3 c4 c5) (hB : Below w.heap.size w V) :
    DecPost w (⟨x0, l1, x2, x3, x4, x5, x6, x7, l2, l3, l4, l5⟩, z) (.returned (.tuple #[.agg #[.int .i64 x0, .slice A1 l1.length c1, .int .i64 x2, .int .i64 x3, .int .i64 x4, .int .i64 x5, .int .i64 x6, .int .i64 x7, .slice A2 l2.length c2, .slice A3 l3.length c3, .slice A4 l4.length c4, .slice A5 l5.length c5], .int .i64 z])) V :=
  ⟨A1, A2, A3, A4, A5, c1, c2, c3, c4, c5, rfl, h, hB⟩
theorem decpost_z {w V : World} {z : Int} (hB : Below w.heap.size w V) :
    DecPost w (noCfg, z) (.returned (.tuple #[.agg #[.int .i64 0, .slice none 0 0, .int .i64 0, .int .i64 0, .int .i64 0, .int .i64 0, .int .i64 0, .int .i64 0, .slice none 0 0, .slice none 0 0, .slice none 0 0, .slice none 0 0], .int .i64 z])) V :=
  ⟨none, none, none, none, none, 0, 0, 0, 0, 0, rfl, own_none _ _, hB⟩
theorem res_cfg {tmps : Array Value} {W : World} {g : Nat} {cs : Array Value} {e : Value} (hp : tmps.getD 2 undef = .pointer (some ⟨g, 0, none⟩)) (he : tmps.getD 3 undef = e) (hg : W.heap[g]? = some (.cells cs 29 (0, 0))) (hcs : cs.size = 12) :
    (results Try.f13 tmps).run Try.prog W = .ok (.tuple #[.agg cs, e]) W := by
  rw [results_cell_tmp (p := 2) (u := 3) (ty := 29) rfl, hp, he]
  have hl : (loadVar 29 ⟨g, 0, none⟩).run Try.prog W = .ok (.agg cs) W := run_loadVar_row W g 29 29 cs (0, 0) _ hg Try.underlying29 rfl (by rw [hcs]; rfl)
  simp [asAddr, hl, Result.andThen]
theorem set_self (B : Array Value) (x : Nat) (v : Value) (h : B[x]? = some v) : B.setIfInBounds x v = B := by
  refine Array.ext_getElem? fun i => ?_
  rw [Array.getElem?_setIfInBounds]
  split
  · rename_i e
    subst e
    obtain ⟨hx, -⟩ := Array.getElem?_eq_some_iff.1 h
    rw [if_pos hx, h]
  · rfl
theorem InvC.init {α : Type} {d : Kd α} {e x : Nat} {B : Array Value} {w W : World} {r : List Int} {f : Bool} (h : DSt w r f W) (hc : W.heap[w.heap.size + 6]? = some (Obj.cells B 29 (0, 0))) (hx : B[x]? = some (.slice none 0 0)) (hs : w.heap.size + 7 ≤ W.heap.size) : InvC d e x B w W 0 ([] : List α) r f W :=
  ⟨h, rfl, hs, Nat.le_refl _, ⟨.slice none 0 0, by rw [set_self B x _ hx]; exact hc, Kd.R_nil _ _ _ _ _⟩, fun _ _ _ _ _ => rfl⟩
set_option maxRecDepth 100000 in
set_option maxHeartbeats 32000000 in
theorem decode_calls (w : World) (A : Option Addr) (c : Nat) (b : List Int) (hC : Kd.C kU w A b.length b) (hc : b.length ≤ c) (hb : ∀ x ∈ b, Byte x) :
    Calls Try.prog 13 #[.slice A b.length c] w fun e w' => DecPost w (decD b) e w' := by
  have HC := Lib.hid hC
  have HCC := Lib.hid hc
  have HBY := Lib.hid hb
  clear hC hc hb
  by_cases h4 : b.length < 4
  · go_enter Try.func13, Try.ntmps13
    have h4i : decide ((b.length : Int) < 4) = true := decide_eq_true (by omega)
    have hdec : decD b = (noCfg, 20) := by
      unfold decD
      rw [if_neg]
      intro hc
      have hl := congrArg List.length hc
      rw [List.length_take] at hl
      simp at hl
      omega
    have HZ0 : (w.alloc (Obj.cells #[.int .i64 0, .slice none 0 0, .int .i64 0, .int .i64 0, .int .i64 0, .int .i64 0, .int .i64 0, .int .i64 0, .slice none 0 0, .slice none 0 0, .slice none 0 0, .slice none 0 0] 29 (0, 0))).heap[w.heap.size]? = _ := blk_new w (Obj.cells #[.int .i64 0, .slice none 0 0, .int .i64 0, .int .i64 0, .int .i64 0, .int .i64 0, .int .i64 0, .int .i64 0, .slice none 0 0, .slice none 0 0, .slice none 0 0, .slice none 0 0] 29 (0, 0))
    have HB0 : Below w.heap.size w (w.alloc (Obj.cells #[.int .i64 0, .slice none 0 0, .int .i64 0, .int .i64 0, .int .i64 0, .int .i64 0, .int .i64 0, .int .i64 0, .slice none 0 0, .slice none 0 0, .slice none 0 0, .slice none 0 0] 29 (0, 0))) := (Below.refl w.heap.size w).alloc (Nat.le_refl _) _
    go_wp2_with fail
    refine bodyPost_ret (v := .tuple #[.agg #[.int .i64 0, .slice none 0 0, .int .i64 0, .int .i64 0, .int .i64 0, .int .i64 0, .int .i64 0, .int .i64 0, .slice none 0 0, .slice none 0 0, .slice none 0 0, .slice none 0 0], .int .i64 20]) (res_cfg (g := w.heap.size) rfl rfl HZ0 rfl) rfl ?_
    rw [hdec]
    exact decpost_z HB0
  have h4c : 4 ≤ c := by have := HCC.out; omega
  have h4d : (4 : Int) ≤ (c : Int) := by omega
  have h4e : decide ((b.length : Int) < 4) = false := decide_eq_false (by omega)
  have h4f : (4 : Int) ≤ (b.length : Int) := by omega
  have h4g : 4 ≤ b.length := by omega
  have hcv : ∀ W, Below w.heap.size w W → ∀ k, (convert 22 9 (.slice A 4 k)).run Try.prog W = .ok (.string (strOfNums (b.take 4))) W := fun W hW k => by
    have h := Kd.C_take HC.out (m := 4) (by omega)
    have hl : (b.take 4).length = 4 := by rw [List.length_take]; omega
    rw [hl] at h
    exact Kd.C_string Try.underlying22 Try.underlying5 Try.underlying9 (Kd.C_below h hW)
  have heq := head_eq (b.take 4) (fun x hx => HBY.out x (List.mem_of_mem_take hx))
  have hcw := hcv _ ((Below.refl w.heap.size w).alloc (Nat.le_refl _) (Obj.cells #[.int .i64 0, .slice none 0 0, .int .i64 0, .int .i64 0, .int .i64 0, .int .i64 0, .int .i64 0, .int .i64 0, .slice none 0 0, .slice none 0 0, .slice none 0 0, .slice none 0 0] 29 (0, 0)))
  by_cases hh : b.take 4 = [82, 79, 84, 65]
  · have heq2 := heq.trans (decide_eq_true hh)
    have HH := Lib.hid hh
    clear heq hh
    go_enter Try.func13, Try.ntmps13
    have hdr := Kd.C_drop HC.out (m := 4) (by omega) HCC.out
    have hdl : (b.drop 4).length = b.length - 4 := List.length_drop
    by_cases h : c = 4
    · rw [if_pos h] at hdr
      subst h
      have HDR := Lib.hid hdr
      clear hdr
      go_wp2_with fail
      have HIN := Lib.hid (dec_init w A (4 - 4) (b.length - 4) (b.drop 4) hdl HDR.out (by rw [hdl]; have := HCC.out; omega) (fun x hx => HBY.out x (List.mem_of_mem_drop hx)))
      clear hcv hcw heq2 h4 h4c h4d h4e h4f h4g
      go_loopw [36] (fun i wr => ∃ (k : Nat) (l r : List Int) (f : Bool), k ≤ 7 ∧ i = .int .i64 k ∧ l.length = k ∧ Hid (numsD k (b.drop 4) true = (l, r, f)) ∧ Hid (DSt w r f wr) ∧ Hid (wr.heap[w.heap.size]? = some (Obj.cells #[.int .i64 0, .slice none 0 0, .int .i64 0, .int .i64 0, .int .i64 0, .int .i64 0, .int .i64 0, .int .i64 0, .slice none 0 0, .slice none 0 0, .slice none 0 0, .slice none 0 0] 29 (0, 0))) ∧ Hid (wr.heap[w.heap.size + 6]? = some (Obj.cells (cbD l) 29 (0, 0))) ∧ Hid (wr.heap[w.heap.size + 7]? = some (Obj.cells (pbD w) 73 (0, 0)))) (fun i _ => 7 - (intOf i).toNat)
      case atStart => exact ⟨0, [], b.drop 4, true, by omega, rfl, rfl, Lib.hid rfl, Lib.hid HIN.out.1, Lib.hid HIN.out.2.1, Lib.hid HIN.out.2.2.1, Lib.hid HIN.out.2.2.2⟩
      case round =>
        obtain ⟨k, l, r, f, hk, rfl, hl, HNU, HDS, HZB, HCB, HPB⟩ := hrel
        by_cases hlt : k < 7
        · have n0 : wr.cell? ⟨w.heap.size + 1 + 1 + 1, 0, none⟩ = _ := blk_cell HDS.out.N 0
          have q0 : wr.cell? ⟨w.heap.size + 1 + 1 + 1 + 1 + 1 + 1 + 1, k, none⟩ = some (.pointer (some ⟨w.heap.size + 1 + 1 + 1 + 1 + 1 + 1, offD k, none⟩)) := (blk_cell HPB.out k).trans (by
            obtain rfl | rfl | rfl | rfl | rfl | rfl | rfl : k = 0 ∨ k = 1 ∨ k = 2 ∨ k = 3 ∨ k = 4 ∨ k = 5 ∨ k = 6 := by omega
            all_goals rfl)
          go_wp2_with fail
          refine (DSt.next HDS.out).mono ?_
          rintro e u ⟨rfl, hd1, hk1⟩
          have hcb1 := hk1.blk HCB.out (by omega) (by omega)
          have hob : offD k < 12 := by unfold offD; split <;> omega
          have hcc1 : ∃ x, (cbD l)[offD k]? = some x := ⟨(cbD l)[offD k]'hob, Array.getElem?_eq_getElem hob⟩
          obtain ⟨xo, hxo⟩ := hcc1
          have c1 : u.cell? ⟨w.heap.size + 1 + 1 + 1 + 1 + 1 + 1, offD k, none⟩ = some xo := (blk_cell hcb1 (offD k)).trans hxo
          have f1 : u.frozen? ⟨w.heap.size + 1 + 1 + 1 + 1 + 1 + 1, offD k, none⟩ = false := blk_frozen hcb1 (offD k)
          have HD1 := Lib.hid (hd1.set (p := ⟨w.heap.size + 6, offD k, none⟩) (by simp) (.int .i64 (nextD r f).1))
          have HZ1 := Lib.hid (blk_far (hk1.blk HZB.out (by omega) (by omega)) (p := ⟨w.heap.size + 6, offD k, none⟩) (by simp) (.int .i64 (nextD r f).1))
          have HP1 := Lib.hid (blk_far (hk1.blk HPB.out (by omega) (by omega)) (p := ⟨w.heap.size + 6, offD k, none⟩) (by simp) (.int .i64 (nextD r f).1))
          have hcs := blk_set hcb1 (offD k) (.int .i64 (nextD r f).1)
          rw [← hl, cbD_set l _ (by omega), hl] at hcs
          have HC1 := Lib.hid hcs
          have HNX := Lib.hid (show numsD (k + 1) (b.drop 4) true = (l ++ [(nextD r f).1], (nextD r f).2.1, (nextD r f).2.2) by unfold numsD; rw [HNU.out])
          clear hd1 hk1 hcb1 hxo hob hcs n0 q0 HNU HDS HZB HCB HPB
          go_wp2_with fail
          go_roundw
          case rel => exact ⟨k + 1, _, _, _, by omega, by go_num, by rw [List.length_append, hl]; rfl, HNX, HD1, HZ1, HC1, HP1⟩
          case measure => simp [intOf]; omega
        · obtain rfl : k = 7 := by omega
          clear hlt hk
          have l0 : wr.cell? ⟨w.heap.size + 1 + 1 + 1 + 1 + 1, 0, none⟩ = _ := blk_cell HDS.out.L 0
          have HSZ := Lib.hid (show w.heap.size + 8 ≤ wr.heap.size from blk_lt HPB.out)
          go_wp2_with fail
          refine (list_calls' HDS.out).mono ?_
          rintro e u1 ⟨v1, rfl, hd1, ho1, hl1, hk1⟩
          have hcb1 := hk1.blk HCB.out (by omega) (by omega)
          have hz1 := hk1.blk HZB.out (by omega) (by omega)
          obtain ⟨⟨l1, r1, f1⟩, hlo⟩ : ∃ x, x = listD r f := ⟨_, rfl⟩
          have HN1 := Lib.hid hlo
          rw [← hlo] at hd1 ho1
          dsimp only at hd1 ho1
          obtain ⟨AA1, cc1, rfl⟩ := Kd.R_slice ho1
          have k1 : u1.cell? ⟨w.heap.size + 1 + 1 + 1 + 1 + 1 + 1, 1, none⟩ = some (.slice none 0 0) := blk_cell hcb1 1
          have kf1 : u1.frozen? ⟨w.heap.size + 1 + 1 + 1 + 1 + 1 + 1, 1, none⟩ = false := blk_frozen hcb1 1
          have HD1 := Lib.hid (hd1.set (p := ⟨w.heap.size + 1 + 1 + 1 + 1 + 1 + 1, 1, none⟩) (Nat.le_refl _) (.slice AA1 l1.length cc1))
          have HZ1 := Lib.hid (blk_far hz1 (p := ⟨w.heap.size + 1 + 1 + 1 + 1 + 1 + 1, 1, none⟩) (by show w.heap.size ≠ w.heap.size + 1 + 1 + 1 + 1 + 1 + 1; omega) (.slice AA1 l1.length cc1))
          have HC1 := Lib.hid (show (u1.setCell ⟨w.heap.size + 1 + 1 + 1 + 1 + 1 + 1, 1, none⟩ (.slice AA1 l1.length cc1)).heap[w.heap.size + 6]? = some (Obj.cells ((cbD l).setIfInBounds 1 (.slice AA1 l1.length cc1)) 29 (0, 0)) from blk_set hcb1 1 _)
          have HR1 := Lib.hid (Kd.R_far ho1 (p := ⟨w.heap.size + 1 + 1 + 1 + 1 + 1 + 1, 1, none⟩) (fun k hk he => by have he' : k = w.heap.size + 1 + 1 + 1 + 1 + 1 + 1 := he; have := HSZ.out; omega) (.slice AA1 l1.length cc1))
          have HS1 := Lib.hid (show w.heap.size + 8 ≤ (u1.setCell ⟨w.heap.size + 1 + 1 + 1 + 1 + 1 + 1, 1, none⟩ (.slice AA1 l1.length cc1)).heap.size by rw [World.size_setCell]; exact Nat.le_trans HSZ.out hk1.1)
          have m0 : (u1.setCell ⟨w.heap.size + 1 + 1 + 1 + 1 + 1 + 1, 1, none⟩ (.slice AA1 l1.length cc1)).cell? ⟨w.heap.size + 1 + 1 + 1 + 1, 0, none⟩ = _ := blk_cell HD1.out.M 0
          clear hd1 ho1 hl1 hk1 hcb1 hz1 hlo HDS HZB HCB HPB l0
          go_wp2_with fail
          clear m0 k1 kf1
          generalize u1.setCell ⟨w.heap.size + 1 + 1 + 1 + 1 + 1 + 1, 1, none⟩ (.slice AA1 l1.length cc1) = W1 at *
          refine (many_calls w 40 #[.pointer (some ⟨w.heap.size + 6, 0, none⟩), .pointer (some ⟨w.heap.size + 3, 0, none⟩)] eachP (InvC k57 57 8 ((cbD l).setIfInBounds 1 (.slice AA1 l1.length cc1)) w W1) (fun _ => rfl) (fun j a r f V h => h.1) (fun j a r f V h r' f' V' hd hk => h.next hd hk) (fun j a r V hj h => eachP_calls w W1 _ (by simp [cbD]) j a r V hj h) [] _ _ _ (InvC.init HD1.out HC1.out (by simp [cbD]) (by have := HS1.out; omega))).mono ?_
          rintro e W2 ⟨rfl, j2, hj2, hd2, hl2, -, hs2, ⟨v2, hc2, hr2⟩, hk2⟩
          obtain ⟨⟨l2, r2, f2⟩, hn2⟩ : ∃ x, x = manyD eachP [] r1 f1 := ⟨_, rfl⟩
          have HN2 := Lib.hid hn2
          rw [← hn2] at hd2 hr2
          dsimp only at hd2 hr2
          obtain ⟨AA2, cc2, rfl⟩ := Kd.R_slice hr2
          have HD2 := Lib.hid hd2
          have HC2 := Lib.hid hc2
          have HZ2 := Lib.hid ((hk2 w.heap.size (by have := HS1.out; omega) (by omega) (by omega) (by omega)).trans HZ1.out)
          have HS2 := Lib.hid (Nat.le_trans HS1.out hs2)
          have HQ2 := Lib.hid hr2
          have HK2 := Lib.hid hk2
          have HT2 := Lib.hid hs2
          have m0 : W2.cell? ⟨w.heap.size + 1 + 1 + 1 + 1, 0, none⟩ = _ := blk_cell HD2.out.M 0
          clear hd2 hl2 hs2 hc2 hr2 hk2 hn2 hj2
          go_wp2_with fail
          clear m0
          refine (many_calls w 41 #[.pointer (some ⟨w.heap.size + 6, 0, none⟩), .pointer (some ⟨w.heap.size + 5, 0, none⟩)] eachW (InvC (Kd.slice 3 kI) 23 9 (((cbD l).setIfInBounds 1 (.slice AA1 l1.length cc1)).setIfInBounds 8 (.slice AA2 l2.length cc2)) w W2) (fun _ => rfl) (fun j a r f V h => h.1) (fun j a r f V h r' f' V' hd hk => h.next hd hk) (fun j a r V hj h => eachW_calls w W2 _ (by simp [cbD]) j a r V hj h) [] _ _ _ (InvC.init HD2.out HC2.out (by simp [cbD]) (by have := HS2.out; omega))).mono ?_
          rintro e W3 ⟨rfl, j3, hj3, hd3, hl3, -, hs3, ⟨v3, hc3, hr3⟩, hk3⟩
          obtain ⟨⟨l3, r3, f3⟩, hn3⟩ : ∃ x, x = manyD eachW [] r2 f2 := ⟨_, rfl⟩
          have HN3 := Lib.hid hn3
          rw [← hn3] at hd3 hr3
          dsimp only at hd3 hr3
          obtain ⟨AA3, cc3, rfl⟩ := Kd.R_slice hr3
          have HD3 := Lib.hid hd3
          have HC3 := Lib.hid hc3
          have HZ3 := Lib.hid ((hk3 w.heap.size (by have := HS2.out; omega) (by omega) (by omega) (by omega)).trans HZ2.out)
          have HS3 := Lib.hid (Nat.le_trans HS2.out hs3)
          have HQ3 := Lib.hid hr3
          have HK3 := Lib.hid hk3
          have HT3 := Lib.hid hs3
          have m0 : W3.cell? ⟨w.heap.size + 1 + 1 + 1 + 1, 0, none⟩ = _ := blk_cell HD3.out.M 0
          clear hd3 hl3 hs3 hc3 hr3 hk3 hn3 hj3
          go_wp2_with fail
          clear m0
          refine (many_calls w 42 #[.pointer (some ⟨w.heap.size + 6, 0, none⟩), .pointer (some ⟨w.heap.size + 3, 0, none⟩)] eachQ (InvC k59 59 10 ((((cbD l).setIfInBounds 1 (.slice AA1 l1.length cc1)).setIfInBounds 8 (.slice AA2 l2.length cc2)).setIfInBounds 9 (.slice AA3 l3.length cc3)) w W3) (fun _ => rfl) (fun j a r f V h => h.1) (fun j a r f V h r' f' V' hd hk => h.next hd hk) (fun j a r V hj h => eachQ_calls w W3 _ (by simp [cbD]) j a r V hj h) [] _ _ _ (InvC.init HD3.out HC3.out (by simp [cbD]) (by have := HS3.out; omega))).mono ?_
          rintro e W4 ⟨rfl, j4, hj4, hd4, hl4, -, hs4, ⟨v4, hc4, hr4⟩, hk4⟩
          obtain ⟨⟨l4, r4, f4⟩, hn4⟩ : ∃ x, x = manyD eachQ [] r3 f3 := ⟨_, rfl⟩
          have HN4 := Lib.hid hn4
          rw [← hn4] at hd4 hr4
          dsimp only at hd4 hr4
          obtain ⟨AA4, cc4, rfl⟩ := Kd.R_slice hr4
          have HD4 := Lib.hid hd4
          have HC4 := Lib.hid hc4
          have HZ4 := Lib.hid ((hk4 w.heap.size (by have := HS3.out; omega) (by omega) (by omega) (by omega)).trans HZ3.out)
          have HS4 := Lib.hid (Nat.le_trans HS3.out hs4)
          have HQ4 := Lib.hid hr4
          have HK4 := Lib.hid hk4
          have HT4 := Lib.hid hs4
          have m0 : W4.cell? ⟨w.heap.size + 1 + 1 + 1 + 1, 0, none⟩ = _ := blk_cell HD4.out.M 0
          clear hd4 hl4 hs4 hc4 hr4 hk4 hn4 hj4
          go_wp2_with fail
          clear m0
          refine (many_calls w 43 #[.pointer (some ⟨w.heap.size + 6, 0, none⟩), .pointer (some ⟨w.heap.size + 3, 0, none⟩), .pointer (some ⟨w.heap.size + 5, 0, none⟩)] eachK (InvC k61 61 11 (((((cbD l).setIfInBounds 1 (.slice AA1 l1.length cc1)).setIfInBounds 8 (.slice AA2 l2.length cc2)).setIfInBounds 9 (.slice AA3 l3.length cc3)).setIfInBounds 10 (.slice AA4 l4.length cc4)) w W4) (fun _ => rfl) (fun j a r f V h => h.1) (fun j a r f V h r' f' V' hd hk => h.next hd hk) (fun j a r V hj h => eachK_calls w W4 _ (by simp [cbD]) j a r V hj h) [] _ _ _ (InvC.init HD4.out HC4.out (by simp [cbD]) (by have := HS4.out; omega))).mono ?_
          rintro e W5 ⟨rfl, j5, hj5, hd5, hl5, -, hs5, ⟨v5, hc5, hr5⟩, hk5⟩
          obtain ⟨⟨l5, r5, f5⟩, hn5⟩ : ∃ x, x = manyD eachK [] r4 f4 := ⟨_, rfl⟩
          have HN5 := Lib.hid hn5
          rw [← hn5] at hd5 hr5
          dsimp only at hd5 hr5
          obtain ⟨AA5, cc5, rfl⟩ := Kd.R_slice hr5
          have HD5 := Lib.hid hd5
          have HC5 := Lib.hid hc5
          have HZ5 := Lib.hid ((hk5 w.heap.size (by have := HS4.out; omega) (by omega) (by omega) (by omega)).trans HZ4.out)
          have HQ5 := Lib.hid hr5
          have HK5 := Lib.hid hk5
          obtain ⟨AR, cR, hR5, -, -⟩ := hd5.R
          have g0 : W5.cell? ⟨w.heap.size + 1 + 1, 0, none⟩ = _ := blk_cell hd5.F 0
          have g1 : W5.cell? ⟨w.heap.size + 1, 0, none⟩ = _ := blk_cell hR5 0
          have HBO := Lib.hid (show bodyD (b.drop 4) = (⟨l.getD 0 0, l1, l.getD 1 0, l.getD 2 0, l.getD 3 0, l.getD 4 0, l.getD 5 0, l.getD 6 0, l2, l3, l4, l5⟩, r5, f5) by
            unfold bodyD
            rw [HNU.out]
            dsimp only
            rw [← HN1.out]
            dsimp only
            rw [← HN2.out]
            dsimp only
            rw [← HN3.out]
            dsimp only
            rw [← HN4.out]
            dsimp only
            rw [← HN5.out])
          clear hd5 hc5 hr5 hk5 hl5 hs5 hn5 hR5
          by_cases hok : f5 = true ∧ r5 = []
          · obtain ⟨rfl, rfl⟩ := hok
            have hdec : decD b = (⟨l.getD 0 0, l1, l.getD 1 0, l.getD 2 0, l.getD 3 0, l.getD 4 0, l.getD 5 0, l.getD 6 0, l2, l3, l4, l5⟩, 0) := by
              unfold decD
              rw [if_pos HH.out, HBO.out, if_pos ⟨rfl, rfl⟩]
            have hc5' : W5.heap[w.heap.size + 6]? = some (Obj.cells #[.int .i64 (l.getD 0 0), .slice AA1 l1.length cc1, .int .i64 (l.getD 1 0), .int .i64 (l.getD 2 0), .int .i64 (l.getD 3 0), .int .i64 (l.getD 4 0), .int .i64 (l.getD 5 0), .int .i64 (l.getD 6 0), .slice AA2 l2.length cc2, .slice AA3 l3.length cc3, .slice AA4 l4.length cc4, .slice AA5 l5.length cc5] 29 (0, 0)) := HC5.out
            generalize hx0 : l.getD 0 0 = x0 at hc5'
            generalize hx1 : l.getD 1 0 = x1 at hc5'
            generalize hx2 : l.getD 2 0 = x2 at hc5'
            generalize hx3 : l.getD 3 0 = x3 at hc5'
            generalize hx4 : l.getD 4 0 = x4 at hc5'
            generalize hx5 : l.getD 5 0 = x5 at hc5'
            generalize hx6 : l.getD 6 0 = x6 at hc5'
            have q0 : W5.cell? ⟨w.heap.size + 1 + 1 + 1 + 1 + 1 + 1, 0, none⟩ = some (.int .i64 x0) := blk_cell hc5' 0
            have q1 : W5.cell? ⟨w.heap.size + 1 + 1 + 1 + 1 + 1 + 1, 1, none⟩ = some (.slice AA1 l1.length cc1) := blk_cell hc5' 1
            have q2 : W5.cell? ⟨w.heap.size + 1 + 1 + 1 + 1 + 1 + 1, 2, none⟩ = some (.int .i64 x1) := blk_cell hc5' 2
            have q3 : W5.cell? ⟨w.heap.size + 1 + 1 + 1 + 1 + 1 + 1, 3, none⟩ = some (.int .i64 x2) := blk_cell hc5' 3
            have q4 : W5.cell? ⟨w.heap.size + 1 + 1 + 1 + 1 + 1 + 1, 4, none⟩ = some (.int .i64 x3) := blk_cell hc5' 4
            have q5 : W5.cell? ⟨w.heap.size + 1 + 1 + 1 + 1 + 1 + 1, 5, none⟩ = some (.int .i64 x4) := blk_cell hc5' 5
            have q6 : W5.cell? ⟨w.heap.size + 1 + 1 + 1 + 1 + 1 + 1, 6, none⟩ = some (.int .i64 x5) := blk_cell hc5' 6
            have q7 : W5.cell? ⟨w.heap.size + 1 + 1 + 1 + 1 + 1 + 1, 7, none⟩ = some (.int .i64 x6) := blk_cell hc5' 7
            have q8 : W5.cell? ⟨w.heap.size + 1 + 1 + 1 + 1 + 1 + 1, 8, none⟩ = some (.slice AA2 l2.length cc2) := blk_cell hc5' 8
            have q9 : W5.cell? ⟨w.heap.size + 1 + 1 + 1 + 1 + 1 + 1, 9, none⟩ = some (.slice AA3 l3.length cc3) := blk_cell hc5' 9
            have q10 : W5.cell? ⟨w.heap.size + 1 + 1 + 1 + 1 + 1 + 1, 10, none⟩ = some (.slice AA4 l4.length cc4) := blk_cell hc5' 10
            have q11 : W5.cell? ⟨w.heap.size + 1 + 1 + 1 + 1 + 1 + 1, 11, none⟩ = some (.slice AA5 l5.length cc5) := blk_cell hc5' 11
            have z0 : W5.cell? ⟨w.heap.size, 0, none⟩ = _ := blk_cell HZ5.out 0
            have z1 : W5.cell? ⟨w.heap.size, 1, none⟩ = _ := blk_cell HZ5.out 1
            have z2 : W5.cell? ⟨w.heap.size, 2, none⟩ = _ := blk_cell HZ5.out 2
            have z3 : W5.cell? ⟨w.heap.size, 3, none⟩ = _ := blk_cell HZ5.out 3
            have z4 : W5.cell? ⟨w.heap.size, 4, none⟩ = _ := blk_cell HZ5.out 4
            have z5 : W5.cell? ⟨w.heap.size, 5, none⟩ = _ := blk_cell HZ5.out 5
            have z6 : W5.cell? ⟨w.heap.size, 6, none⟩ = _ := blk_cell HZ5.out 6
            have z7 : W5.cell? ⟨w.heap.size, 7, none⟩ = _ := blk_cell HZ5.out 7
            have z8 : W5.cell? ⟨w.heap.size, 8, none⟩ = _ := blk_cell HZ5.out 8
            have z9 : W5.cell? ⟨w.heap.size, 9, none⟩ = _ := blk_cell HZ5.out 9
            have z10 : W5.cell? ⟨w.heap.size, 10, none⟩ = _ := blk_cell HZ5.out 10
            have z11 : W5.cell? ⟨w.heap.size, 11, none⟩ = _ := blk_cell HZ5.out 11
            have zf0 : W5.frozen? ⟨w.heap.size, 0, none⟩ = _ := blk_frozen HZ5.out 0
            have zf1 : W5.frozen? ⟨w.heap.size, 1, none⟩ = _ := blk_frozen HZ5.out 1
            have zf2 : W5.frozen? ⟨w.heap.size, 2, none⟩ = _ := blk_frozen HZ5.out 2
            have zf3 : W5.frozen? ⟨w.heap.size, 3, none⟩ = _ := blk_frozen HZ5.out 3
            have zf4 : W5.frozen? ⟨w.heap.size, 4, none⟩ = _ := blk_frozen HZ5.out 4
            have zf5 : W5.frozen? ⟨w.heap.size, 5, none⟩ = _ := blk_frozen HZ5.out 5
            have zf6 : W5.frozen? ⟨w.heap.size, 6, none⟩ = _ := blk_frozen HZ5.out 6
            have zf7 : W5.frozen? ⟨w.heap.size, 7, none⟩ = _ := blk_frozen HZ5.out 7
            have zf8 : W5.frozen? ⟨w.heap.size, 8, none⟩ = _ := blk_frozen HZ5.out 8
            have zf9 : W5.frozen? ⟨w.heap.size, 9, none⟩ = _ := blk_frozen HZ5.out 9
            have zf10 : W5.frozen? ⟨w.heap.size, 10, none⟩ = _ := blk_frozen HZ5.out 10
            have zf11 : W5.frozen? ⟨w.heap.size, 11, none⟩ = _ := blk_frozen HZ5.out 11
            clear hc5'
            go_wp2_with fail
            obtain ⟨hF, hK, hB⟩ := store12 HZ5.out (.int .i64 x0) (.slice AA1 l1.length cc1) (.int .i64 x1) (.int .i64 x2) (.int .i64 x3) (.int .i64 x4) (.int .i64 x5) (.int .i64 x6) (.slice AA2 l2.length cc2) (.slice AA3 l3.length cc3) (.slice AA4 l4.length cc4) (.slice AA5 l5.length cc5) (s := w.heap.size) (w := w) (Nat.le_refl _) HD5.out.B
            generalize hFW : ((((((((((((W5.setCell ⟨w.heap.size, 0, none⟩ (.int .i64 x0)).setCell ⟨w.heap.size, 1, none⟩ (.slice AA1 l1.length cc1)).setCell ⟨w.heap.size, 2, none⟩ (.int .i64 x1)).setCell ⟨w.heap.size, 3, none⟩ (.int .i64 x2)).setCell ⟨w.heap.size, 4, none⟩ (.int .i64 x3)).setCell ⟨w.heap.size, 5, none⟩ (.int .i64 x4)).setCell ⟨w.heap.size, 6, none⟩ (.int .i64 x5)).setCell ⟨w.heap.size, 7, none⟩ (.int .i64 x6)).setCell ⟨w.heap.size, 8, none⟩ (.slice AA2 l2.length cc2)).setCell ⟨w.heap.size, 9, none⟩ (.slice AA3 l3.length cc3)).setCell ⟨w.heap.size, 10, none⟩ (.slice AA4 l4.length cc4)).setCell ⟨w.heap.size, 11, none⟩ (.slice AA5 l5.length cc5)) = FW at hF hK hB ⊢
            clear hFW z0 zf0 z1 zf1 z2 zf2 z3 zf3 z4 zf4 z5 zf5 z6 zf6 z7 zf7 z8 zf8 z9 zf9 z10 zf10 z11 zf11
            refine bodyPost_ret (v := .tuple #[.agg #[.int .i64 x0, .slice AA1 l1.length cc1, .int .i64 x1, .int .i64 x2, .int .i64 x3, .int .i64 x4, .int .i64 x5, .int .i64 x6, .slice AA2 l2.length cc2, .slice AA3 l3.length cc3, .slice AA4 l4.length cc4, .slice AA5 l5.length cc5], .int .i64 0]) (res_cfg (g := w.heap.size) rfl rfl hF rfl) rfl ?_
            subst hx0 hx1 hx2 hx3 hx4 hx5 hx6
            rw [hdec]
            exact decpost_ok (dec_end (by have := HSZ.out; omega) HS1.out HT2.out HT3.out HT4.out HR1.out HQ2.out HQ3.out HQ4.out HQ5.out (fun i h8 hi => HK2.out i hi (by omega) (by omega) (by omega)) (fun i h8 hi => HK3.out i hi (by omega) (by omega) (by omega)) (fun i h8 hi => HK4.out i hi (by omega) (by omega) (by omega)) (fun i h8 hi => HK5.out i hi (by omega) (by omega) (by omega)) (fun i h8 hi => hK.2 i hi (by omega) (by simp)) _ _ _ _ _ _ _) hB
          · have hdec : decD b = (noCfg, 20) := by
              unfold decD
              rw [if_pos HH.out, HBO.out, if_neg hok]
            cases f5
            · have z0 : W5.cell? ⟨w.heap.size, 0, none⟩ = _ := blk_cell HZ5.out 0
              have z1 : W5.cell? ⟨w.heap.size, 1, none⟩ = _ := blk_cell HZ5.out 1
              have z2 : W5.cell? ⟨w.heap.size, 2, none⟩ = _ := blk_cell HZ5.out 2
              have z3 : W5.cell? ⟨w.heap.size, 3, none⟩ = _ := blk_cell HZ5.out 3
              have z4 : W5.cell? ⟨w.heap.size, 4, none⟩ = _ := blk_cell HZ5.out 4
              have z5 : W5.cell? ⟨w.heap.size, 5, none⟩ = _ := blk_cell HZ5.out 5
              have z6 : W5.cell? ⟨w.heap.size, 6, none⟩ = _ := blk_cell HZ5.out 6
              have z7 : W5.cell? ⟨w.heap.size, 7, none⟩ = _ := blk_cell HZ5.out 7
              have z8 : W5.cell? ⟨w.heap.size, 8, none⟩ = _ := blk_cell HZ5.out 8
              have z9 : W5.cell? ⟨w.heap.size, 9, none⟩ = _ := blk_cell HZ5.out 9
              have z10 : W5.cell? ⟨w.heap.size, 10, none⟩ = _ := blk_cell HZ5.out 10
              have z11 : W5.cell? ⟨w.heap.size, 11, none⟩ = _ := blk_cell HZ5.out 11
              have zf0 : W5.frozen? ⟨w.heap.size, 0, none⟩ = _ := blk_frozen HZ5.out 0
              have zf1 : W5.frozen? ⟨w.heap.size, 1, none⟩ = _ := blk_frozen HZ5.out 1
              have zf2 : W5.frozen? ⟨w.heap.size, 2, none⟩ = _ := blk_frozen HZ5.out 2
              have zf3 : W5.frozen? ⟨w.heap.size, 3, none⟩ = _ := blk_frozen HZ5.out 3
              have zf4 : W5.frozen? ⟨w.heap.size, 4, none⟩ = _ := blk_frozen HZ5.out 4
              have zf5 : W5.frozen? ⟨w.heap.size, 5, none⟩ = _ := blk_frozen HZ5.out 5
              have zf6 : W5.frozen? ⟨w.heap.size, 6, none⟩ = _ := blk_frozen HZ5.out 6
              have zf7 : W5.frozen? ⟨w.heap.size, 7, none⟩ = _ := blk_frozen HZ5.out 7
              have zf8 : W5.frozen? ⟨w.heap.size, 8, none⟩ = _ := blk_frozen HZ5.out 8
              have zf9 : W5.frozen? ⟨w.heap.size, 9, none⟩ = _ := blk_frozen HZ5.out 9
              have zf10 : W5.frozen? ⟨w.heap.size, 10, none⟩ = _ := blk_frozen HZ5.out 10
              have zf11 : W5.frozen? ⟨w.heap.size, 11, none⟩ = _ := blk_frozen HZ5.out 11
              go_wp2_with fail
              obtain ⟨hF, hK, hB⟩ := store12 HZ5.out (.int .i64 0) (.slice none 0 0) (.int .i64 0) (.int .i64 0) (.int .i64 0) (.int .i64 0) (.int .i64 0) (.int .i64 0) (.slice none 0 0) (.slice none 0 0) (.slice none 0 0) (.slice none 0 0) (s := w.heap.size) (w := w) (Nat.le_refl _) HD5.out.B
              generalize hFW : ((((((((((((W5.setCell ⟨w.heap.size, 0, none⟩ (.int .i64 0)).setCell ⟨w.heap.size, 1, none⟩ (.slice none 0 0)).setCell ⟨w.heap.size, 2, none⟩ (.int .i64 0)).setCell ⟨w.heap.size, 3, none⟩ (.int .i64 0)).setCell ⟨w.heap.size, 4, none⟩ (.int .i64 0)).setCell ⟨w.heap.size, 5, none⟩ (.int .i64 0)).setCell ⟨w.heap.size, 6, none⟩ (.int .i64 0)).setCell ⟨w.heap.size, 7, none⟩ (.int .i64 0)).setCell ⟨w.heap.size, 8, none⟩ (.slice none 0 0)).setCell ⟨w.heap.size, 9, none⟩ (.slice none 0 0)).setCell ⟨w.heap.size, 10, none⟩ (.slice none 0 0)).setCell ⟨w.heap.size, 11, none⟩ (.slice none 0 0)) = FW at hF hK hB ⊢
              clear hFW z0 zf0 z1 zf1 z2 zf2 z3 zf3 z4 zf4 z5 zf5 z6 zf6 z7 zf7 z8 zf8 z9 zf9 z10 zf10 z11 zf11
              refine bodyPost_ret (v := .tuple #[.agg #[.int .i64 0, .slice none 0 0, .int .i64 0, .int .i64 0, .int .i64 0, .int .i64 0, .int .i64 0, .int .i64 0, .slice none 0 0, .slice none 0 0, .slice none 0 0, .slice none 0 0], .int .i64 20]) (res_cfg (g := w.heap.size) rfl rfl hF rfl) rfl ?_
              rw [hdec]
              exact decpost_z hB
            · have hlr : 0 < r5.length := by
                rcases r5 with _ | ⟨x, r5⟩
                · exact absurd ⟨rfl, rfl⟩ hok
                · simp
              have hlr2 : (0 : Int) < (r5.length : Int) := by omega
              have hlr3 : decide ((r5.length : Int) > 0) = true := decide_eq_true (by omega)
              have z0 : W5.cell? ⟨w.heap.size, 0, none⟩ = _ := blk_cell HZ5.out 0
              have z1 : W5.cell? ⟨w.heap.size, 1, none⟩ = _ := blk_cell HZ5.out 1
              have z2 : W5.cell? ⟨w.heap.size, 2, none⟩ = _ := blk_cell HZ5.out 2
              have z3 : W5.cell? ⟨w.heap.size, 3, none⟩ = _ := blk_cell HZ5.out 3
              have z4 : W5.cell? ⟨w.heap.size, 4, none⟩ = _ := blk_cell HZ5.out 4
              have z5 : W5.cell? ⟨w.heap.size, 5, none⟩ = _ := blk_cell HZ5.out 5
              have z6 : W5.cell? ⟨w.heap.size, 6, none⟩ = _ := blk_cell HZ5.out 6
              have z7 : W5.cell? ⟨w.heap.size, 7, none⟩ = _ := blk_cell HZ5.out 7
              have z8 : W5.cell? ⟨w.heap.size, 8, none⟩ = _ := blk_cell HZ5.out 8
              have z9 : W5.cell? ⟨w.heap.size, 9, none⟩ = _ := blk_cell HZ5.out 9
              have z10 : W5.cell? ⟨w.heap.size, 10, none⟩ = _ := blk_cell HZ5.out 10
              have z11 : W5.cell? ⟨w.heap.size, 11, none⟩ = _ := blk_cell HZ5.out 11
              have zf0 : W5.frozen? ⟨w.heap.size, 0, none⟩ = _ := blk_frozen HZ5.out 0
              have zf1 : W5.frozen? ⟨w.heap.size, 1, none⟩ = _ := blk_frozen HZ5.out 1
              have zf2 : W5.frozen? ⟨w.heap.size, 2, none⟩ = _ := blk_frozen HZ5.out 2
              have zf3 : W5.frozen? ⟨w.heap.size, 3, none⟩ = _ := blk_frozen HZ5.out 3
              have zf4 : W5.frozen? ⟨w.heap.size, 4, none⟩ = _ := blk_frozen HZ5.out 4
              have zf5 : W5.frozen? ⟨w.heap.size, 5, none⟩ = _ := blk_frozen HZ5.out 5
              have zf6 : W5.frozen? ⟨w.heap.size, 6, none⟩ = _ := blk_frozen HZ5.out 6
              have zf7 : W5.frozen? ⟨w.heap.size, 7, none⟩ = _ := blk_frozen HZ5.out 7
              have zf8 : W5.frozen? ⟨w.heap.size, 8, none⟩ = _ := blk_frozen HZ5.out 8
              have zf9 : W5.frozen? ⟨w.heap.size, 9, none⟩ = _ := blk_frozen HZ5.out 9
              have zf10 : W5.frozen? ⟨w.heap.size, 10, none⟩ = _ := blk_frozen HZ5.out 10
              have zf11 : W5.frozen? ⟨w.heap.size, 11, none⟩ = _ := blk_frozen HZ5.out 11
              go_wp2_with fail
              obtain ⟨hF, hK, hB⟩ := store12 HZ5.out (.int .i64 0) (.slice none 0 0) (.int .i64 0) (.int .i64 0) (.int .i64 0) (.int .i64 0) (.int .i64 0) (.int .i64 0) (.slice none 0 0) (.slice none 0 0) (.slice none 0 0) (.slice none 0 0) (s := w.heap.size) (w := w) (Nat.le_refl _) HD5.out.B
              generalize hFW : ((((((((((((W5.setCell ⟨w.heap.size, 0, none⟩ (.int .i64 0)).setCell ⟨w.heap.size, 1, none⟩ (.slice none 0 0)).setCell ⟨w.heap.size, 2, none⟩ (.int .i64 0)).setCell ⟨w.heap.size, 3, none⟩ (.int .i64 0)).setCell ⟨w.heap.size, 4, none⟩ (.int .i64 0)).setCell ⟨w.heap.size, 5, none⟩ (.int .i64 0)).setCell ⟨w.heap.size, 6, none⟩ (.int .i64 0)).setCell ⟨w.heap.size, 7, none⟩ (.int .i64 0)).setCell ⟨w.heap.size, 8, none⟩ (.slice none 0 0)).setCell ⟨w.heap.size, 9, none⟩ (.slice none 0 0)).setCell ⟨w.heap.size, 10, none⟩ (.slice none 0 0)).setCell ⟨w.heap.size, 11, none⟩ (.slice none 0 0)) = FW at hF hK hB ⊢
              clear hFW z0 zf0 z1 zf1 z2 zf2 z3 zf3 z4 zf4 z5 zf5 z6 zf6 z7 zf7 z8 zf8 z9 zf9 z10 zf10 z11 zf11
              refine bodyPost_ret (v := .tuple #[.agg #[.int .i64 0, .slice none 0 0, .int .i64 0, .int .i64 0, .int .i64 0, .int .i64 0, .int .i64 0, .int .i64 0, .slice none 0 0, .slice none 0 0, .slice none 0 0, .slice none 0 0], .int .i64 20]) (res_cfg (g := w.heap.size) rfl rfl hF rfl) rfl ?_
              rw [hdec]
              exact decpost_z hB
    · rw [if_neg h] at hdr
      obtain ⟨ad, rfl⟩ : ∃ ad, A = some ad := by
        rcases A with _ | ad
        · obtain ⟨ad, -, e, -⟩ := Kd.C_get HC.out 0 0 (by omega) (by omega)
          cases e
        · exact ⟨ad, rfl⟩
      have HDR := Lib.hid (show Kd.C kU w (some { block := ad.block, off := ad.off + 4 }) (b.drop 4).length (b.drop 4) from hdr)
      clear hdr
      go_wp2_with fail
      have HIN := Lib.hid (dec_init w (some { block := ad.block, off := ad.off + 4 }) (c - 4) (b.length - 4) (b.drop 4) hdl HDR.out (by rw [hdl]; have := HCC.out; omega) (fun x hx => HBY.out x (List.mem_of_mem_drop hx)))
      clear hcv hcw heq2 h4 h4c h4d h4e h4f h4g
      go_loopw [36] (fun i wr => ∃ (k : Nat) (l r : List Int) (f : Bool), k ≤ 7 ∧ i = .int .i64 k ∧ l.length = k ∧ Hid (numsD k (b.drop 4) true = (l, r, f)) ∧ Hid (DSt w r f wr) ∧ Hid (wr.heap[w.heap.size]? = some (Obj.cells #[.int .i64 0, .slice none 0 0, .int .i64 0, .int .i64 0, .int .i64 0, .int .i64 0, .int .i64 0, .int .i64 0, .slice none 0 0, .slice none 0 0, .slice none 0 0, .slice none 0 0] 29 (0, 0))) ∧ Hid (wr.heap[w.heap.size + 6]? = some (Obj.cells (cbD l) 29 (0, 0))) ∧ Hid (wr.heap[w.heap.size + 7]? = some (Obj.cells (pbD w) 73 (0, 0)))) (fun i _ => 7 - (intOf i).toNat)
      case atStart => exact ⟨0, [], b.drop 4, true, by omega, rfl, rfl, Lib.hid rfl, Lib.hid HIN.out.1, Lib.hid HIN.out.2.1, Lib.hid HIN.out.2.2.1, Lib.hid HIN.out.2.2.2⟩
      case round =>
        obtain ⟨k, l, r, f, hk, rfl, hl, HNU, HDS, HZB, HCB, HPB⟩ := hrel
        by_cases hlt : k < 7
        · have n0 : wr.cell? ⟨w.heap.size + 1 + 1 + 1, 0, none⟩ = _ := blk_cell HDS.out.N 0
          have q0 : wr.cell? ⟨w.heap.size + 1 + 1 + 1 + 1 + 1 + 1 + 1, k, none⟩ = some (.pointer (some ⟨w.heap.size + 1 + 1 + 1 + 1 + 1 + 1, offD k, none⟩)) := (blk_cell HPB.out k).trans (by
            obtain rfl | rfl | rfl | rfl | rfl | rfl | rfl : k = 0 ∨ k = 1 ∨ k = 2 ∨ k = 3 ∨ k = 4 ∨ k = 5 ∨ k = 6 := by omega
            all_goals rfl)
          go_wp2_with fail
          refine (DSt.next HDS.out).mono ?_
          rintro e u ⟨rfl, hd1, hk1⟩
          have hcb1 := hk1.blk HCB.out (by omega) (by omega)
          have hob : offD k < 12 := by unfold offD; split <;> omega
          have hcc1 : ∃ x, (cbD l)[offD k]? = some x := ⟨(cbD l)[offD k]'hob, Array.getElem?_eq_getElem hob⟩
          obtain ⟨xo, hxo⟩ := hcc1
          have c1 : u.cell? ⟨w.heap.size + 1 + 1 + 1 + 1 + 1 + 1, offD k, none⟩ = some xo := (blk_cell hcb1 (offD k)).trans hxo
          have f1 : u.frozen? ⟨w.heap.size + 1 + 1 + 1 + 1 + 1 + 1, offD k, none⟩ = false := blk_frozen hcb1 (offD k)
          have HD1 := Lib.hid (hd1.set (p := ⟨w.heap.size + 6, offD k, none⟩) (by simp) (.int .i64 (nextD r f).1))
          have HZ1 := Lib.hid (blk_far (hk1.blk HZB.out (by omega) (by omega)) (p := ⟨w.heap.size + 6, offD k, none⟩) (by simp) (.int .i64 (nextD r f).1))
          have HP1 := Lib.hid (blk_far (hk1.blk HPB.out (by omega) (by omega)) (p := ⟨w.heap.size + 6, offD k, none⟩) (by simp) (.int .i64 (nextD r f).1))
          have hcs := blk_set hcb1 (offD k) (.int .i64 (nextD r f).1)
          rw [← hl, cbD_set l _ (by omega), hl] at hcs
          have HC1 := Lib.hid hcs
          have HNX := Lib.hid (show numsD (k + 1) (b.drop 4) true = (l ++ [(nextD r f).1], (nextD r f).2.1, (nextD r f).2.2) by unfold numsD; rw [HNU.out])
          clear hd1 hk1 hcb1 hxo hob hcs n0 q0 HNU HDS HZB HCB HPB
          go_wp2_with fail
          go_roundw
          case rel => exact ⟨k + 1, _, _, _, by omega, by go_num, by rw [List.length_append, hl]; rfl, HNX, HD1, HZ1, HC1, HP1⟩
          case measure => simp [intOf]; omega
        · obtain rfl : k = 7 := by omega
          clear hlt hk
          have l0 : wr.cell? ⟨w.heap.size + 1 + 1 + 1 + 1 + 1, 0, none⟩ = _ := blk_cell HDS.out.L 0
          have HSZ := Lib.hid (show w.heap.size + 8 ≤ wr.heap.size from blk_lt HPB.out)
          go_wp2_with fail
          refine (list_calls' HDS.out).mono ?_
          rintro e u1 ⟨v1, rfl, hd1, ho1, hl1, hk1⟩
          have hcb1 := hk1.blk HCB.out (by omega) (by omega)
          have hz1 := hk1.blk HZB.out (by omega) (by omega)
          obtain ⟨⟨l1, r1, f1⟩, hlo⟩ : ∃ x, x = listD r f := ⟨_, rfl⟩
          have HN1 := Lib.hid hlo
          rw [← hlo] at hd1 ho1
          dsimp only at hd1 ho1
          obtain ⟨AA1, cc1, rfl⟩ := Kd.R_slice ho1
          have k1 : u1.cell? ⟨w.heap.size + 1 + 1 + 1 + 1 + 1 + 1, 1, none⟩ = some (.slice none 0 0) := blk_cell hcb1 1
          have kf1 : u1.frozen? ⟨w.heap.size + 1 + 1 + 1 + 1 + 1 + 1, 1, none⟩ = false := blk_frozen hcb1 1
          have HD1 := Lib.hid (hd1.set (p := ⟨w.heap.size + 1 + 1 + 1 + 1 + 1 + 1, 1, none⟩) (Nat.le_refl _) (.slice AA1 l1.length cc1))
          have HZ1 := Lib.hid (blk_far hz1 (p := ⟨w.heap.size + 1 + 1 + 1 + 1 + 1 + 1, 1, none⟩) (by show w.heap.size ≠ w.heap.size + 1 + 1 + 1 + 1 + 1 + 1; omega) (.slice AA1 l1.length cc1))
          have HC1 := Lib.hid (show (u1.setCell ⟨w.heap.size + 1 + 1 + 1 + 1 + 1 + 1, 1, none⟩ (.slice AA1 l1.length cc1)).heap[w.heap.size + 6]? = some (Obj.cells ((cbD l).setIfInBounds 1 (.slice AA1 l1.length cc1)) 29 (0, 0)) from blk_set hcb1 1 _)
          have HR1 := Lib.hid (Kd.R_far ho1 (p := ⟨w.heap.size + 1 + 1 + 1 + 1 + 1 + 1, 1, none⟩) (fun k hk he => by have he' : k = w.heap.size + 1 + 1 + 1 + 1 + 1 + 1 := he; have := HSZ.out; omega) (.slice AA1 l1.length cc1))
          have HS1 := Lib.hid (show w.heap.size + 8 ≤ (u1.setCell ⟨w.heap.size + 1 + 1 + 1 + 1 + 1 + 1, 1, none⟩ (.slice AA1 l1.length cc1)).heap.size by rw [World.size_setCell]; exact Nat.le_trans HSZ.out hk1.1)
          have m0 : (u1.setCell ⟨w.heap.size + 1 + 1 + 1 + 1 + 1 + 1, 1, none⟩ (.slice AA1 l1.length cc1)).cell? ⟨w.heap.size + 1 + 1 + 1 + 1, 0, none⟩ = _ := blk_cell HD1.out.M 0
          clear hd1 ho1 hl1 hk1 hcb1 hz1 hlo HDS HZB HCB HPB l0
          go_wp2_with fail
          clear m0 k1 kf1
          generalize u1.setCell ⟨w.heap.size + 1 + 1 + 1 + 1 + 1 + 1, 1, none⟩ (.slice AA1 l1.length cc1) = W1 at *
          refine (many_calls w 40 #[.pointer (some ⟨w.heap.size + 6, 0, none⟩), .pointer (some ⟨w.heap.size + 3, 0, none⟩)] eachP (InvC k57 57 8 ((cbD l).setIfInBounds 1 (.slice AA1 l1.length cc1)) w W1) (fun _ => rfl) (fun j a r f V h => h.1) (fun j a r f V h r' f' V' hd hk => h.next hd hk) (fun j a r V hj h => eachP_calls w W1 _ (by simp [cbD]) j a r V hj h) [] _ _ _ (InvC.init HD1.out HC1.out (by simp [cbD]) (by have := HS1.out; omega))).mono ?_
          rintro e W2 ⟨rfl, j2, hj2, hd2, hl2, -, hs2, ⟨v2, hc2, hr2⟩, hk2⟩
          obtain ⟨⟨l2, r2, f2⟩, hn2⟩ : ∃ x, x = manyD eachP [] r1 f1 := ⟨_, rfl⟩
          have HN2 := Lib.hid hn2
          rw [← hn2] at hd2 hr2
          dsimp only at hd2 hr2
          obtain ⟨AA2, cc2, rfl⟩ := Kd.R_slice hr2
          have HD2 := Lib.hid hd2
          have HC2 := Lib.hid hc2
          have HZ2 := Lib.hid ((hk2 w.heap.size (by have := HS1.out; omega) (by omega) (by omega) (by omega)).trans HZ1.out)
          have HS2 := Lib.hid (Nat.le_trans HS1.out hs2)
          have HQ2 := Lib.hid hr2
          have HK2 := Lib.hid hk2
          have HT2 := Lib.hid hs2
          have m0 : W2.cell? ⟨w.heap.size + 1 + 1 + 1 + 1, 0, none⟩ = _ := blk_cell HD2.out.M 0
          clear hd2 hl2 hs2 hc2 hr2 hk2 hn2 hj2
          go_wp2_with fail
          clear m0
          refine (many_calls w 41 #[.pointer (some ⟨w.heap.size + 6, 0, none⟩), .pointer (some ⟨w.heap.size + 5, 0, none⟩)] eachW (InvC (Kd.slice 3 kI) 23 9 (((cbD l).setIfInBounds 1 (.slice AA1 l1.length cc1)).setIfInBounds 8 (.slice AA2 l2.length cc2)) w W2) (fun _ => rfl) (fun j a r f V h => h.1) (fun j a r f V h r' f' V' hd hk => h.next hd hk) (fun j a r V hj h => eachW_calls w W2 _ (by simp [cbD]) j a r V hj h) [] _ _ _ (InvC.init HD2.out HC2.out (by simp [cbD]) (by have := HS2.out; omega))).mono ?_
          rintro e W3 ⟨rfl, j3, hj3, hd3, hl3, -, hs3, ⟨v3, hc3, hr3⟩, hk3⟩
          obtain ⟨⟨l3, r3, f3⟩, hn3⟩ : ∃ x, x = manyD eachW [] r2 f2 := ⟨_, rfl⟩
          have HN3 := Lib.hid hn3
          rw [← hn3] at hd3 hr3
          dsimp only at hd3 hr3
          obtain ⟨AA3, cc3, rfl⟩ := Kd.R_slice hr3
          have HD3 := Lib.hid hd3
          have HC3 := Lib.hid hc3
          have HZ3 := Lib.hid ((hk3 w.heap.size (by have := HS2.out; omega) (by omega) (by omega) (by omega)).trans HZ2.out)
          have HS3 := Lib.hid (Nat.le_trans HS2.out hs3)
          have HQ3 := Lib.hid hr3
          have HK3 := Lib.hid hk3
          have HT3 := Lib.hid hs3
          have m0 : W3.cell? ⟨w.heap.size + 1 + 1 + 1 + 1, 0, none⟩ = _ := blk_cell HD3.out.M 0
          clear hd3 hl3 hs3 hc3 hr3 hk3 hn3 hj3
          go_wp2_with fail
          clear m0
          refine (many_calls w 42 #[.pointer (some ⟨w.heap.size + 6, 0, none⟩), .pointer (some ⟨w.heap.size + 3, 0, none⟩)] eachQ (InvC k59 59 10 ((((cbD l).setIfInBounds 1 (.slice AA1 l1.length cc1)).setIfInBounds 8 (.slice AA2 l2.length cc2)).setIfInBounds 9 (.slice AA3 l3.length cc3)) w W3) (fun _ => rfl) (fun j a r f V h => h.1) (fun j a r f V h r' f' V' hd hk => h.next hd hk) (fun j a r V hj h => eachQ_calls w W3 _ (by simp [cbD]) j a r V hj h) [] _ _ _ (InvC.init HD3.out HC3.out (by simp [cbD]) (by have := HS3.out; omega))).mono ?_
          rintro e W4 ⟨rfl, j4, hj4, hd4, hl4, -, hs4, ⟨v4, hc4, hr4⟩, hk4⟩
          obtain ⟨⟨l4, r4, f4⟩, hn4⟩ : ∃ x, x = manyD eachQ [] r3 f3 := ⟨_, rfl⟩
          have HN4 := Lib.hid hn4
          rw [← hn4] at hd4 hr4
          dsimp only at hd4 hr4
          obtain ⟨AA4, cc4, rfl⟩ := Kd.R_slice hr4
          have HD4 := Lib.hid hd4
          have HC4 := Lib.hid hc4
          have HZ4 := Lib.hid ((hk4 w.heap.size (by have := HS3.out; omega) (by omega) (by omega) (by omega)).trans HZ3.out)
          have HS4 := Lib.hid (Nat.le_trans HS3.out hs4)
          have HQ4 := Lib.hid hr4
          have HK4 := Lib.hid hk4
          have HT4 := Lib.hid hs4
          have m0 : W4.cell? ⟨w.heap.size + 1 + 1 + 1 + 1, 0, none⟩ = _ := blk_cell HD4.out.M 0
          clear hd4 hl4 hs4 hc4 hr4 hk4 hn4 hj4
          go_wp2_with fail
          clear m0
          refine (many_calls w 43 #[.pointer (some ⟨w.heap.size + 6, 0, none⟩), .pointer (some ⟨w.heap.size + 3, 0, none⟩), .pointer (some ⟨w.heap.size + 5, 0, none⟩)] eachK (InvC k61 61 11 (((((cbD l).setIfInBounds 1 (.slice AA1 l1.length cc1)).setIfInBounds 8 (.slice AA2 l2.length cc2)).setIfInBounds 9 (.slice AA3 l3.length cc3)).setIfInBounds 10 (.slice AA4 l4.length cc4)) w W4) (fun _ => rfl) (fun j a r f V h => h.1) (fun j a r f V h r' f' V' hd hk => h.next hd hk) (fun j a r V hj h => eachK_calls w W4 _ (by simp [cbD]) j a r V hj h) [] _ _ _ (InvC.init HD4.out HC4.out (by simp [cbD]) (by have := HS4.out; omega))).mono ?_
          rintro e W5 ⟨rfl, j5, hj5, hd5, hl5, -, hs5, ⟨v5, hc5, hr5⟩, hk5⟩
          obtain ⟨⟨l5, r5, f5⟩, hn5⟩ : ∃ x, x = manyD eachK [] r4 f4 := ⟨_, rfl⟩
          have HN5 := Lib.hid hn5
          rw [← hn5] at hd5 hr5
          dsimp only at hd5 hr5
          obtain ⟨AA5, cc5, rfl⟩ := Kd.R_slice hr5
          have HD5 := Lib.hid hd5
          have HC5 := Lib.hid hc5
          have HZ5 := Lib.hid ((hk5 w.heap.size (by have := HS4.out; omega) (by omega) (by omega) (by omega)).trans HZ4.out)
          have HQ5 := Lib.hid hr5
          have HK5 := Lib.hid hk5
          obtain ⟨AR, cR, hR5, -, -⟩ := hd5.R
          have g0 : W5.cell? ⟨w.heap.size + 1 + 1, 0, none⟩ = _ := blk_cell hd5.F 0
          have g1 : W5.cell? ⟨w.heap.size + 1, 0, none⟩ = _ := blk_cell hR5 0
          have HBO := Lib.hid (show bodyD (b.drop 4) = (⟨l.getD 0 0, l1, l.getD 1 0, l.getD 2 0, l.getD 3 0, l.getD 4 0, l.getD 5 0, l.getD 6 0, l2, l3, l4, l5⟩, r5, f5) by
            unfold bodyD
            rw [HNU.out]
            dsimp only
            rw [← HN1.out]
            dsimp only
            rw [← HN2.out]
            dsimp only
            rw [← HN3.out]
            dsimp only
            rw [← HN4.out]
            dsimp only
            rw [← HN5.out])
          clear hd5 hc5 hr5 hk5 hl5 hs5 hn5 hR5
          by_cases hok : f5 = true ∧ r5 = []
          · obtain ⟨rfl, rfl⟩ := hok
            have hdec : decD b = (⟨l.getD 0 0, l1, l.getD 1 0, l.getD 2 0, l.getD 3 0, l.getD 4 0, l.getD 5 0, l.getD 6 0, l2, l3, l4, l5⟩, 0) := by
              unfold decD
              rw [if_pos HH.out, HBO.out, if_pos ⟨rfl, rfl⟩]
            have hc5' : W5.heap[w.heap.size + 6]? = some (Obj.cells #[.int .i64 (l.getD 0 0), .slice AA1 l1.length cc1, .int .i64 (l.getD 1 0), .int .i64 (l.getD 2 0), .int .i64 (l.getD 3 0), .int .i64 (l.getD 4 0), .int .i64 (l.getD 5 0), .int .i64 (l.getD 6 0), .slice AA2 l2.length cc2, .slice AA3 l3.length cc3, .slice AA4 l4.length cc4, .slice AA5 l5.length cc5] 29 (0, 0)) := HC5.out
            generalize hx0 : l.getD 0 0 = x0 at hc5'
            generalize hx1 : l.getD 1 0 = x1 at hc5'
            generalize hx2 : l.getD 2 0 = x2 at hc5'
            generalize hx3 : l.getD 3 0 = x3 at hc5'
            generalize hx4 : l.getD 4 0 = x4 at hc5'
            generalize hx5 : l.getD 5 0 = x5 at hc5'
            generalize hx6 : l.getD 6 0 = x6 at hc5'
            have q0 : W5.cell? ⟨w.heap.size + 1 + 1 + 1 + 1 + 1 + 1, 0, none⟩ = some (.int .i64 x0) := blk_cell hc5' 0
            have q1 : W5.cell? ⟨w.heap.size + 1 + 1 + 1 + 1 + 1 + 1, 1, none⟩ = some (.slice AA1 l1.length cc1) := blk_cell hc5' 1
            have q2 : W5.cell? ⟨w.heap.size + 1 + 1 + 1 + 1 + 1 + 1, 2, none⟩ = some (.int .i64 x1) := blk_cell hc5' 2
            have q3 : W5.cell? ⟨w.heap.size + 1 + 1 + 1 + 1 + 1 + 1, 3, none⟩ = some (.int .i64 x2) := blk_cell hc5' 3
            have q4 : W5.cell? ⟨w.heap.size + 1 + 1 + 1 + 1 + 1 + 1, 4, none⟩ = some (.int .i64 x3) := blk_cell hc5' 4
            have q5 : W5.cell? ⟨w.heap.size + 1 + 1 + 1 + 1 + 1 + 1, 5, none⟩ = some (.int .i64 x4) := blk_cell hc5' 5
            have q6 : W5.cell? ⟨w.heap.size + 1 + 1 + 1 + 1 + 1 + 1, 6, none⟩ = some (.int .i64 x5) := blk_cell hc5' 6
            have q7 : W5.cell? ⟨w.heap.size + 1 + 1 + 1 + 1 + 1 + 1, 7, none⟩ = some (.int .i64 x6) := blk_cell hc5' 7
            have q8 : W5.cell? ⟨w.heap.size + 1 + 1 + 1 + 1 + 1 + 1, 8, none⟩ = some (.slice AA2 l2.length cc2) := blk_cell hc5' 8
            have q9 : W5.cell? ⟨w.heap.size + 1 + 1 + 1 + 1 + 1 + 1, 9, none⟩ = some (.slice AA3 l3.length cc3) := blk_cell hc5' 9
            have q10 : W5.cell? ⟨w.heap.size + 1 + 1 + 1 + 1 + 1 + 1, 10, none⟩ = some (.slice AA4 l4.length cc4) := blk_cell hc5' 10
            have q11 : W5.cell? ⟨w.heap.size + 1 + 1 + 1 + 1 + 1 + 1, 11, none⟩ = some (.slice AA5 l5.length cc5) := blk_cell hc5' 11
            have z0 : W5.cell? ⟨w.heap.size, 0, none⟩ = _ := blk_cell HZ5.out 0
            have z1 : W5.cell? ⟨w.heap.size, 1, none⟩ = _ := blk_cell HZ5.out 1
            have z2 : W5.cell? ⟨w.heap.size, 2, none⟩ = _ := blk_cell HZ5.out 2
            have z3 : W5.cell? ⟨w.heap.size, 3, none⟩ = _ := blk_cell HZ5.out 3
            have z4 : W5.cell? ⟨w.heap.size, 4, none⟩ = _ := blk_cell HZ5.out 4
            have z5 : W5.cell? ⟨w.heap.size, 5, none⟩ = _ := blk_cell HZ5.out 5
            have z6 : W5.cell? ⟨w.heap.size, 6, none⟩ = _ := blk_cell HZ5.out 6
            have z7 : W5.cell? ⟨w.heap.size, 7, none⟩ = _ := blk_cell HZ5.out 7
            have z8 : W5.cell? ⟨w.heap.size, 8, none⟩ = _ := blk_cell HZ5.out 8
            have z9 : W5.cell? ⟨w.heap.size, 9, none⟩ = _ := blk_cell HZ5.out 9
            have z10 : W5.cell? ⟨w.heap.size, 10, none⟩ = _ := blk_cell HZ5.out 10
            have z11 : W5.cell? ⟨w.heap.size, 11, none⟩ = _ := blk_cell HZ5.out 11
            have zf0 : W5.frozen? ⟨w.heap.size, 0, none⟩ = _ := blk_frozen HZ5.out 0
            have zf1 : W5.frozen? ⟨w.heap.size, 1, none⟩ = _ := blk_frozen HZ5.out 1
            have zf2 : W5.frozen? ⟨w.heap.size, 2, none⟩ = _ := blk_frozen HZ5.out 2
            have zf3 : W5.frozen? ⟨w.heap.size, 3, none⟩ = _ := blk_frozen HZ5.out 3
            have zf4 : W5.frozen? ⟨w.heap.size, 4, none⟩ = _ := blk_frozen HZ5.out 4
            have zf5 : W5.frozen? ⟨w.heap.size, 5, none⟩ = _ := blk_frozen HZ5.out 5
            have zf6 : W5.frozen? ⟨w.heap.size, 6, none⟩ = _ := blk_frozen HZ5.out 6
            have zf7 : W5.frozen? ⟨w.heap.size, 7, none⟩ = _ := blk_frozen HZ5.out 7
            have zf8 : W5.frozen? ⟨w.heap.size, 8, none⟩ = _ := blk_frozen HZ5.out 8
            have zf9 : W5.frozen? ⟨w.heap.size, 9, none⟩ = _ := blk_frozen HZ5.out 9
            have zf10 : W5.frozen? ⟨w.heap.size, 10, none⟩ = _ := blk_frozen HZ5.out 10
            have zf11 : W5.frozen? ⟨w.heap.size, 11, none⟩ = _ := blk_frozen HZ5.out 11
            clear hc5'
            go_wp2_with fail
            obtain ⟨hF, hK, hB⟩ := store12 HZ5.out (.int .i64 x0) (.slice AA1 l1.length cc1) (.int .i64 x1) (.int .i64 x2) (.int .i64 x3) (.int .i64 x4) (.int .i64 x5) (.int .i64 x6) (.slice AA2 l2.length cc2) (.slice AA3 l3.length cc3) (.slice AA4 l4.length cc4) (.slice AA5 l5.length cc5) (s := w.heap.size) (w := w) (Nat.le_refl _) HD5.out.B
            generalize hFW : ((((((((((((W5.setCell ⟨w.heap.size, 0, none⟩ (.int .i64 x0)).setCell ⟨w.heap.size, 1, none⟩ (.slice AA1 l1.length cc1)).setCell ⟨w.heap.size, 2, none⟩ (.int .i64 x1)).setCell ⟨w.heap.size, 3, none⟩ (.int .i64 x2)).setCell ⟨w.heap.size, 4, none⟩ (.int .i64 x3)).setCell ⟨w.heap.size, 5, none⟩ (.int .i64 x4)).setCell ⟨w.heap.size, 6, none⟩ (.int .i64 x5)).setCell ⟨w.heap.size, 7, none⟩ (.int .i64 x6)).setCell ⟨w.heap.size, 8, none⟩ (.slice AA2 l2.length cc2)).setCell ⟨w.heap.size, 9, none⟩ (.slice AA3 l3.length cc3)).setCell ⟨w.heap.size, 10, none⟩ (.slice AA4 l4.length cc4)).setCell ⟨w.heap.size, 11, none⟩ (.slice AA5 l5.length cc5)) = FW at hF hK hB ⊢
            clear hFW z0 zf0 z1 zf1 z2 zf2 z3 zf3 z4 zf4 z5 zf5 z6 zf6 z7 zf7 z8 zf8 z9 zf9 z10 zf10 z11 zf11
            refine bodyPost_ret (v := .tuple #[.agg #[.int .i64 x0, .slice AA1 l1.length cc1, .int .i64 x1, .int .i64 x2, .int .i64 x3, .int .i64 x4, .int .i64 x5, .int .i64 x6, .slice AA2 l2.length cc2, .slice AA3 l3.length cc3, .slice AA4 l4.length cc4, .slice AA5 l5.length cc5], .int .i64 0]) (res_cfg (g := w.heap.size) rfl rfl hF rfl) rfl ?_
            subst hx0 hx1 hx2 hx3 hx4 hx5 hx6
            rw [hdec]
            exact decpost_ok (dec_end (by have := HSZ.out; omega) HS1.out HT2.out HT3.out HT4.out HR1.out HQ2.out HQ3.out HQ4.out HQ5.out (fun i h8 hi => HK2.out i hi (by omega) (by omega) (by omega)) (fun i h8 hi => HK3.out i hi (by omega) (by omega) (by omega)) (fun i h8 hi => HK4.out i hi (by omega) (by omega) (by omega)) (fun i h8 hi => HK5.out i hi (by omega) (by omega) (by omega)) (fun i h8 hi => hK.2 i hi (by omega) (by simp)) _ _ _ _ _ _ _) hB
          · have hdec : decD b = (noCfg, 20) := by
              unfold decD
              rw [if_pos HH.out, HBO.out, if_neg hok]
            cases f5
            · have z0 : W5.cell? ⟨w.heap.size, 0, none⟩ = _ := blk_cell HZ5.out 0
              have z1 : W5.cell? ⟨w.heap.size, 1, none⟩ = _ := blk_cell HZ5.out 1
              have z2 : W5.cell? ⟨w.heap.size, 2, none⟩ = _ := blk_cell HZ5.out 2
              have z3 : W5.cell? ⟨w.heap.size, 3, none⟩ = _ := blk_cell HZ5.out 3
              have z4 : W5.cell? ⟨w.heap.size, 4, none⟩ = _ := blk_cell HZ5.out 4
              have z5 : W5.cell? ⟨w.heap.size, 5, none⟩ = _ := blk_cell HZ5.out 5
              have z6 : W5.cell? ⟨w.heap.size, 6, none⟩ = _ := blk_cell HZ5.out 6
              have z7 : W5.cell? ⟨w.heap.size, 7, none⟩ = _ := blk_cell HZ5.out 7
              have z8 : W5.cell? ⟨w.heap.size, 8, none⟩ = _ := blk_cell HZ5.out 8
              have z9 : W5.cell? ⟨w.heap.size, 9, none⟩ = _ := blk_cell HZ5.out 9
              have z10 : W5.cell? ⟨w.heap.size, 10, none⟩ = _ := blk_cell HZ5.out 10
              have z11 : W5.cell? ⟨w.heap.size, 11, none⟩ = _ := blk_cell HZ5.out 11
              have zf0 : W5.frozen? ⟨w.heap.size, 0, none⟩ = _ := blk_frozen HZ5.out 0
              have zf1 : W5.frozen? ⟨w.heap.size, 1, none⟩ = _ := blk_frozen HZ5.out 1
              have zf2 : W5.frozen? ⟨w.heap.size, 2, none⟩ = _ := blk_frozen HZ5.out 2
              have zf3 : W5.frozen? ⟨w.heap.size, 3, none⟩ = _ := blk_frozen HZ5.out 3
              have zf4 : W5.frozen? ⟨w.heap.size, 4, none⟩ = _ := blk_frozen HZ5.out 4
              have zf5 : W5.frozen? ⟨w.heap.size, 5, none⟩ = _ := blk_frozen HZ5.out 5
              have zf6 : W5.frozen? ⟨w.heap.size, 6, none⟩ = _ := blk_frozen HZ5.out 6
              have zf7 : W5.frozen? ⟨w.heap.size, 7, none⟩ = _ := blk_frozen HZ5.out 7
              have zf8 : W5.frozen? ⟨w.heap.size, 8, none⟩ = _ := blk_frozen HZ5.out 8
              have zf9 : W5.frozen? ⟨w.heap.size, 9, none⟩ = _ := blk_frozen HZ5.out 9
              have zf10 : W5.frozen? ⟨w.heap.size, 10, none⟩ = _ := blk_frozen HZ5.out 10
              have zf11 : W5.frozen? ⟨w.heap.size, 11, none⟩ = _ := blk_frozen HZ5.out 11
              go_wp2_with fail
              obtain ⟨hF, hK, hB⟩ := store12 HZ5.out (.int .i64 0) (.slice none 0 0) (.int .i64 0) (.int .i64 0) (.int .i64 0) (.int .i64 0) (.int .i64 0) (.int .i64 0) (.slice none 0 0) (.slice none 0 0) (.slice none 0 0) (.slice none 0 0) (s := w.heap.size) (w := w) (Nat.le_refl _) HD5.out.B
              generalize hFW : ((((((((((((W5.setCell ⟨w.heap.size, 0, none⟩ (.int .i64 0)).setCell ⟨w.heap.size, 1, none⟩ (.slice none 0 0)).setCell ⟨w.heap.size, 2, none⟩ (.int .i64 0)).setCell ⟨w.heap.size, 3, none⟩ (.int .i64 0)).setCell ⟨w.heap.size, 4, none⟩ (.int .i64 0)).setCell ⟨w.heap.size, 5, none⟩ (.int .i64 0)).setCell ⟨w.heap.size, 6, none⟩ (.int .i64 0)).setCell ⟨w.heap.size, 7, none⟩ (.int .i64 0)).setCell ⟨w.heap.size, 8, none⟩ (.slice none 0 0)).setCell ⟨w.heap.size, 9, none⟩ (.slice none 0 0)).setCell ⟨w.heap.size, 10, none⟩ (.slice none 0 0)).setCell ⟨w.heap.size, 11, none⟩ (.slice none 0 0)) = FW at hF hK hB ⊢
              clear hFW z0 zf0 z1 zf1 z2 zf2 z3 zf3 z4 zf4 z5 zf5 z6 zf6 z7 zf7 z8 zf8 z9 zf9 z10 zf10 z11 zf11
              refine bodyPost_ret (v := .tuple #[.agg #[.int .i64 0, .slice none 0 0, .int .i64 0, .int .i64 0, .int .i64 0, .int .i64 0, .int .i64 0, .int .i64 0, .slice none 0 0, .slice none 0 0, .slice none 0 0, .slice none 0 0], .int .i64 20]) (res_cfg (g := w.heap.size) rfl rfl hF rfl) rfl ?_
              rw [hdec]
              exact decpost_z hB
            · have hlr : 0 < r5.length := by
                rcases r5 with _ | ⟨x, r5⟩
                · exact absurd ⟨rfl, rfl⟩ hok
                · simp
              have hlr2 : (0 : Int) < (r5.length : Int) := by omega
              have hlr3 : decide ((r5.length : Int) > 0) = true := decide_eq_true (by omega)
              have z0 : W5.cell? ⟨w.heap.size, 0, none⟩ = _ := blk_cell HZ5.out 0
              have z1 : W5.cell? ⟨w.heap.size, 1, none⟩ = _ := blk_cell HZ5.out 1
              have z2 : W5.cell? ⟨w.heap.size, 2, none⟩ = _ := blk_cell HZ5.out 2
              have z3 : W5.cell? ⟨w.heap.size, 3, none⟩ = _ := blk_cell HZ5.out 3
              have z4 : W5.cell? ⟨w.heap.size, 4, none⟩ = _ := blk_cell HZ5.out 4
              have z5 : W5.cell? ⟨w.heap.size, 5, none⟩ = _ := blk_cell HZ5.out 5
              have z6 : W5.cell? ⟨w.heap.size, 6, none⟩ = _ := blk_cell HZ5.out 6
              have z7 : W5.cell? ⟨w.heap.size, 7, none⟩ = _ := blk_cell HZ5.out 7
              have z8 : W5.cell? ⟨w.heap.size, 8, none⟩ = _ := blk_cell HZ5.out 8
              have z9 : W5.cell? ⟨w.heap.size, 9, none⟩ = _ := blk_cell HZ5.out 9
              have z10 : W5.cell? ⟨w.heap.size, 10, none⟩ = _ := blk_cell HZ5.out 10
              have z11 : W5.cell? ⟨w.heap.size, 11, none⟩ = _ := blk_cell HZ5.out 11
              have zf0 : W5.frozen? ⟨w.heap.size, 0, none⟩ = _ := blk_frozen HZ5.out 0
              have zf1 : W5.frozen? ⟨w.heap.size, 1, none⟩ = _ := blk_frozen HZ5.out 1
              have zf2 : W5.frozen? ⟨w.heap.size, 2, none⟩ = _ := blk_frozen HZ5.out 2
              have zf3 : W5.frozen? ⟨w.heap.size, 3, none⟩ = _ := blk_frozen HZ5.out 3
              have zf4 : W5.frozen? ⟨w.heap.size, 4, none⟩ = _ := blk_frozen HZ5.out 4
              have zf5 : W5.frozen? ⟨w.heap.size, 5, none⟩ = _ := blk_frozen HZ5.out 5
              have zf6 : W5.frozen? ⟨w.heap.size, 6, none⟩ = _ := blk_frozen HZ5.out 6
              have zf7 : W5.frozen? ⟨w.heap.size, 7, none⟩ = _ := blk_frozen HZ5.out 7
              have zf8 : W5.frozen? ⟨w.heap.size, 8, none⟩ = _ := blk_frozen HZ5.out 8
              have zf9 : W5.frozen? ⟨w.heap.size, 9, none⟩ = _ := blk_frozen HZ5.out 9
              have zf10 : W5.frozen? ⟨w.heap.size, 10, none⟩ = _ := blk_frozen HZ5.out 10
              have zf11 : W5.frozen? ⟨w.heap.size, 11, none⟩ = _ := blk_frozen HZ5.out 11
              go_wp2_with fail
              obtain ⟨hF, hK, hB⟩ := store12 HZ5.out (.int .i64 0) (.slice none 0 0) (.int .i64 0) (.int .i64 0) (.int .i64 0) (.int .i64 0) (.int .i64 0) (.int .i64 0) (.slice none 0 0) (.slice none 0 0) (.slice none 0 0) (.slice none 0 0) (s := w.heap.size) (w := w) (Nat.le_refl _) HD5.out.B
              generalize hFW : ((((((((((((W5.setCell ⟨w.heap.size, 0, none⟩ (.int .i64 0)).setCell ⟨w.heap.size, 1, none⟩ (.slice none 0 0)).setCell ⟨w.heap.size, 2, none⟩ (.int .i64 0)).setCell ⟨w.heap.size, 3, none⟩ (.int .i64 0)).setCell ⟨w.heap.size, 4, none⟩ (.int .i64 0)).setCell ⟨w.heap.size, 5, none⟩ (.int .i64 0)).setCell ⟨w.heap.size, 6, none⟩ (.int .i64 0)).setCell ⟨w.heap.size, 7, none⟩ (.int .i64 0)).setCell ⟨w.heap.size, 8, none⟩ (.slice none 0 0)).setCell ⟨w.heap.size, 9, none⟩ (.slice none 0 0)).setCell ⟨w.heap.size, 10, none⟩ (.slice none 0 0)).setCell ⟨w.heap.size, 11, none⟩ (.slice none 0 0)) = FW at hF hK hB ⊢
              clear hFW z0 zf0 z1 zf1 z2 zf2 z3 zf3 z4 zf4 z5 zf5 z6 zf6 z7 zf7 z8 zf8 z9 zf9 z10 zf10 z11 zf11
              refine bodyPost_ret (v := .tuple #[.agg #[.int .i64 0, .slice none 0 0, .int .i64 0, .int .i64 0, .int .i64 0, .int .i64 0, .int .i64 0, .int .i64 0, .slice none 0 0, .slice none 0 0, .slice none 0 0, .slice none 0 0], .int .i64 20]) (res_cfg (g := w.heap.size) rfl rfl hF rfl) rfl ?_
              rw [hdec]
              exact decpost_z hB
  have heq2 := heq.trans (decide_eq_false hh)
  clear heq
  go_enter Try.func13, Try.ntmps13
  have hdec : decD b = (noCfg, 20) := by
    unfold decD
    rw [if_neg hh]
  have HZ0 : (w.alloc (Obj.cells #[.int .i64 0, .slice none 0 0, .int .i64 0, .int .i64 0, .int .i64 0, .int .i64 0, .int .i64 0, .int .i64 0, .slice none 0 0, .slice none 0 0, .slice none 0 0, .slice none 0 0] 29 (0, 0))).heap[w.heap.size]? = _ := blk_new w (Obj.cells #[.int .i64 0, .slice none 0 0, .int .i64 0, .int .i64 0, .int .i64 0, .int .i64 0, .int .i64 0, .int .i64 0, .slice none 0 0, .slice none 0 0, .slice none 0 0, .slice none 0 0] 29 (0, 0))
  have HB0 : Below w.heap.size w (w.alloc (Obj.cells #[.int .i64 0, .slice none 0 0, .int .i64 0, .int .i64 0, .int .i64 0, .int .i64 0, .int .i64 0, .int .i64 0, .slice none 0 0, .slice none 0 0, .slice none 0 0, .slice none 0 0] 29 (0, 0))) := (Below.refl w.heap.size w).alloc (Nat.le_refl _) _
  go_wp2_with fail
  refine bodyPost_ret (v := .tuple #[.agg #[.int .i64 0, .slice none 0 0, .int .i64 0, .int .i64 0, .int .i64 0, .int .i64 0, .int .i64 0, .int .i64 0, .slice none 0 0, .slice none 0 0, .slice none 0 0, .slice none 0 0], .int .i64 20]) (res_cfg (g := w.heap.size) rfl rfl HZ0 rfl) rfl ?_
  rw [hdec]
  exact decpost_z HB0
end Go.Proofs.Ytehbabkgaecoaaa
