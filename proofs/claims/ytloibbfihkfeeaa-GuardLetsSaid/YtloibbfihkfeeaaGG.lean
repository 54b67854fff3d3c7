/- What guard's Through answers. -/
import Derived.Test.YtloibbfihkfeeaaGF
import Derived.Test.YtloibbfihkfeeaaRangeF
import Derived.Test.YtloibbfihkfeeaaWApart
namespace Go.Proofs.Ytloibbfihkfeeaa
set_option linter.unusedVariables false
set_option linter.unusedSimpArgs false
open Go.RowKit Go.Shelf Go.Proofs.YtloibbfihkfeeaaW.PrintWords
attribute [local go_sem] Oper.semAt_some max2_i min2_i max_2 min_2

def clsh (x y : Sh) : Bool := decide (mxi x.f1 y.f1 < mni x.f2 y.f2)
def stepV (C : S28) (length offset : Int) (l : List Sh) (out : List Int) (x : Sh) : Int :=
  if verdictW C length offset x = 0 ∧ (psd l out out.length).any (clsh x) = true then 4 else verdictW C length offset x
/-- What has been said of the first k shots. -/
def thr (C : S28) (length offset : Int) (l : List Sh) : Nat → List Int
  | 0 => []
  | k + 1 => thr C length offset l k ++ [match l[k]? with | some x => stepV C length offset l (thr C length offset l k) x | none => 0]
theorem thr_len (C : S28) (length offset : Int) (l : List Sh) : ∀ k, (thr C length offset l k).length = k
  | 0 => rfl
  | k + 1 => by rw [thr, List.length_append, thr_len C length offset l k]; rfl
theorem thr_at {C : S28} {length offset : Int} {l : List Sh} {k : Nat} {x : Sh} (h : l[k]? = some x) : thr C length offset l (k + 1) = thr C length offset l k ++ [stepV C length offset l (thr C length offset l k) x] := by
  rw [thr, h]
theorem any_pre {α : Type} {p : α → Bool} {l m : List α} (h : l <+: m) (ha : l.any p = true) : m.any p = true := by
  obtain ⟨r, rfl⟩ := h
  rw [List.any_append, ha]; rfl

/-- What was cells lies as it lay. -/
def CellsKept (X Y : World) : Prop := ∀ (k : Nat) (cs : Array Value) (t : TypeId) (fr : Nat × Nat), X.heap[k]? = some (Obj.cells cs t fr) → Y.heap[k]? = some (Obj.cells cs t fr)
theorem cells_kept {X Y : World} {row : Option Nat} {B : Nat} (hg : X.grownBy Y row) (hr : ∀ r, row = some r → B ≤ r ∧ ∃ o : Obj, X.heap[r]? = some o ∧ o.isCells = false) : CellsKept X Y := fun g cs t fr h =>
  (hg.block g (Array.getElem?_eq_some_iff.1 h).1 (fun e' => by obtain ⟨_, o, ho, hc⟩ := hr g e'.symm; rw [h] at ho; cases ho; cases hc)).trans h
theorem R_cells {α : Type} {d : Kd α} {e base : Nat} {X Y : World} {v : Value} {xs : List α} (h : d.R e X base (fun _ => True) v xs) (hc : CellsKept X Y) : d.R e Y base (fun _ => True) v xs :=
  Kd.R_mono (Kd.R_step (Kd.R_bound h) (fun k ho _ => by obtain ⟨_, _, _, q, _, cells, hcc⟩ := ho; rw [hcc]; exact hc _ _ _ _ hcc)) (fun _ _ => trivial)
theorem R_put_far {α : Type} {d : Kd α} {e base : Nat} {X : World} {v : Value} {xs : List α} (hE : d.E = []) (h : d.R e X base (fun _ => True) v xs) {G : Nat} (hG : some G ≠ v.ownBlock) (i : Nat) (u : Value) : d.R e (X.setCell ⟨G, i, none⟩ u) base (fun _ => True) v xs :=
  Kd.R_mono (Kd.R_far (Kd.R_tight hE h) (p := ⟨G, i, none⟩) (fun k hk e => hG (by rw [← hk, e])) u) (fun _ _ => trivial)
/-- What the loop over the shots keeps: the box of what has come, its row, what lay, the marks. -/
def TK (V : World) (ob : Nat) (vo : Value) (out : List Int) (Ds : List Nat) (W : World) : Prop :=
  W.heap[ob]? = some (Obj.cells #[vo] 22 (0, 0)) ∧ Kd.R kI 3 W ob (fun _ => True) vo out ∧ Below ob V W ∧ Marked ob Ds W
theorem tk_step {V : World} {ob : Nat} {vo : Value} {out : List Int} {Ds : List Nat} {X Y : World} {row : Option Nat} {B : Nat} (hB : ob ≤ B) (hDs : ∀ D ∈ Ds, D < B) (h : TK V ob vo out Ds X)
    (hg : X.grownBy Y row) (hr : ∀ r, row = some r → B ≤ r ∧ ∃ o : Obj, X.heap[r]? = some o ∧ o.isCells = false) : TK V ob vo out Ds Y := by
  obtain ⟨h1, h3, hb, hm⟩ := h
  have hc := cells_kept hg hr
  have hlt := blk_lt h1
  refine ⟨hc _ _ _ _ h1, R_cells h3 hc, hb.grown hg (Nat.le_of_lt hlt) (fun k e => by obtain ⟨h, _⟩ := hr k e; omega), hm.1, fun D hD => ?_⟩
  obtain ⟨g1, g2⟩ := hm.2 D hD
  refine ⟨g1, (hg.block D (Array.getElem?_eq_some_iff.1 g2).1 (fun e => ?_)).trans g2⟩
  obtain ⟨h, _⟩ := hr D e.symm
  have := hDs D hD
  omega
theorem tk_alloc {V : World} {ob : Nat} {vo : Value} {out : List Int} {Ds : List Nat} {X : World} (h : TK V ob vo out Ds X) (o : Obj) : TK V ob vo out Ds (X.alloc o) :=
  tk_step (B := X.heap.size) (Nat.le_of_lt (blk_lt h.1)) (fun D hD => blk_lt (h.2.2.2.2 D hD).2) h (World.grownBy_alloc X o none) (fun r e => by cases e)
theorem tk_app {V : World} {ob : Nat} {vo v' : Value} {out out' : List Int} {Ds : List Nat} {X Y : World} (h : TK V ob vo out Ds X) (hg : X.grownBy Y vo.ownBlock) (ho : Kd.R kI 3 Y ob (fun _ => True) v' out') (hb : Below ob V Y) : TK V ob v' out' Ds (Y.setCell ⟨ob, 0, none⟩ v') ∧ Y.heap[ob]? = some (Obj.cells #[vo] 22 (0, 0)) ∧ KeepsOthers X (Y.setCell ⟨ob, 0, none⟩ v') := by
  obtain ⟨h1, h3, _, hm⟩ := h
  have hY := blk_grown h1 hg (Kd.R_ne h3 h1 (by decide))
  refine ⟨⟨by simpa using blk_set hY 0 v', R_put_far rfl ho (Kd.R_ne ho hY (by decide)) 0 v', hb.setCell (p := ⟨ob, 0, none⟩) (Nat.le_refl _) _, hm.1, fun D hD => ⟨(hm.2 D hD).1, ?_⟩⟩, hY, (KeepsOthers.of_grownBy hg (fun j o ej hj => ?_)).trans (KeepsOthers.setCell _ _ _)⟩
  · refine (KeepsOthers.setCell Y _ _).same D _ (blk_grown (hm.2 D hD).2 hg (fun e => ?_)) rfl
    obtain ⟨cs, hcs⟩ := Kd.R_typed h3 D e.symm
    rw [(hm.2 D hD).2] at hcs; cases hcs
  · obtain ⟨cs, hcs⟩ := Kd.R_typed h3 j ej
    rw [hcs] at hj; cases hj; rfl
theorem tk_mark {V : World} {ob : Nat} {vo : Value} {out : List Int} {Ds : List Nat} {X : World} {D : Nat} (h : TK V ob vo out Ds X) (hn : D ∉ Ds) (hw : ob ≤ D) (hK : X.heap[D]? = some (.deferred (some []))) : TK V ob vo out (D :: Ds) X :=
  ⟨h.1, h.2.1, h.2.2.1, List.nodup_cons.2 ⟨hn, h.2.2.2.1⟩, fun D' h' => by
    rcases List.mem_cons.1 h' with rfl | h'
    · exact ⟨hw, hK⟩
    · exact h.2.2.2.2 D' h'⟩
/-- A round of the range. -/
def TIn (V : World) (ob : Nat) (vo : Value) (out : List Int) (Ds : List Nat) (G : Nat) (x : Sh) (pre : List Sh) (W : World) : Prop :=
  (TK V ob vo out Ds W ∧ W.heap[G]? = some (Obj.cells #[.int .i64 x.f0, .int .i64 x.f1, .int .i64 x.f2] 32 (0, 0))) ∧ pre.any (clsh x) = false
def TEx (V : World) (ob : Nat) (out : List Int) (Ds : List Nat) (x : Sh) (c : Code) (pre : List Sh) (W : World) : Prop :=
  c = .exit 1 ∧ (∃ v', TK V ob v' (out ++ [4]) Ds W) ∧ pre.any (clsh x) = true
theorem tin_own {V : World} {ob : Nat} {vo : Value} {out : List Int} {Ds : List Nat} {G : Nat} {x : Sh} {B : Nat} (hB : ob ≤ B) (hDs : ∀ D ∈ Ds, D < B) : OwnFrom B (TIn V ob vo out Ds G x) :=
  fun _ _ _ _ ⟨⟨h1, h2⟩, h3⟩ hg hr => ⟨⟨tk_step hB hDs h1 hg hr, cells_kept hg hr _ _ _ _ h2⟩, h3⟩
theorem tex_own {V : World} {ob : Nat} {out : List Int} {Ds : List Nat} {x : Sh} {B : Nat} (hB : ob ≤ B) (hDs : ∀ D ∈ Ds, D < B) (c : Code) : OwnFrom B (TEx V ob out Ds x c) :=
  fun _ _ _ _ ⟨h1, ⟨v', h2⟩, h3⟩ hg hr => ⟨h1, ⟨v', tk_step hB hDs h2 hg hr⟩, h3⟩
/-- The loop's frame. -/
def TI (A1 A8 A9 A10 A11 : Option Addr) (c1 c8 c9 c10 c11 : Nat) (C : S28) (length offset : Int) (A : Option Addr) (c : Nat) (l : List Sh) (V : World) (cb B ob : Nat) (a : Act) (W : World) : Prop :=
  ∃ (k : Nat) (vo : Value) (Ds : List Nat) (u14 u15 u16 u32 u33 u34 u35 u36 u37 u38 u39 u40 u41 u42 u43 u44 u45 u46 u47 u48 u49 u50 u51 u52 u53 u54 u55 u56 u57 u58 u59 u60 u61 u62 : Value), a = ({ tmps := #[.agg #[.int .i64 C.f0, .slice A1 C.f1.length c1, .int .i64 C.f2, .int .i64 C.f3, .int .i64 C.f4, .int .i64 C.f5, .int .i64 C.f6, .int .i64 C.f7, .slice A8 C.f8.length c8, .slice A9 C.f9.length c9, .slice A10 C.f10.length c10, .slice A11 C.f11.length c11], .int .i64 length, .int .i64 offset, .slice A l.length c, .pointer (some ⟨cb, 0, none⟩), undef, undef, undef, .slice none 0 0, .int .i64 0, .int .i64 0, .func (.func 37) #[] #[.pointer (some ⟨B + 1, 0, none⟩), .pointer (some ⟨B + 1 + 1, 0, none⟩), .pointer (some ⟨B, 0, none⟩)], .pointer (some ⟨ob, 0, none⟩), undef, u14, u15, u16, .agg #[.int .i64 C.f0, .slice A1 C.f1.length c1, .int .i64 C.f2, .int .i64 C.f3, .int .i64 C.f4, .int .i64 C.f5, .int .i64 C.f6, .int .i64 C.f7, .slice A8 C.f8.length c8, .slice A9 C.f9.length c9, .slice A10 C.f10.length c10, .slice A11 C.f11.length c11], .int .i64 length, .int .i64 offset, .slice A l.length c, .int .i64 0, .int .i64 0, .bool false, undef, .agg #[.int .i64 C.f0, .slice A1 C.f1.length c1, .int .i64 C.f2, .int .i64 C.f3, .int .i64 C.f4, .int .i64 C.f5, .int .i64 C.f6, .int .i64 C.f7, .slice A8 C.f8.length c8, .slice A9 C.f9.length c9, .slice A10 C.f10.length c10, .slice A11 C.f11.length c11], .int .i64 length, .int .i64 offset, .func (.func 37) #[] #[.pointer (some ⟨B + 1, 0, none⟩), .pointer (some ⟨B + 1 + 1, 0, none⟩), .pointer (some ⟨B, 0, none⟩)], .slice A l.length c, .int .i64 l.length, .int .i64 k, u32, u33, u34, u35, u36, u37, u38, u39, u40, u41, u42, u43, u44, u45, u46, u47, u48, u49, u50, u51, u52, u53, u54, u55, u56, u57, u58, u59, u60, u61, u62, undef], defers := Ds.map mark } : Act) ∧ k ≤ l.length ∧ TK V ob vo (thr C length offset l k) Ds W
/-- The walk's goal, an append at its head. -/
theorem gate_b {P : Program} {ops : Array Oper} {rest : List Oper} {o : Oper} {a : Act} {Q : Exit → Act → World → Prop} {W : World} {b : Builtin} {xs : Array Operand} {ts : Array TypeId} (_ho : o.op = .call { callee := .builtin b, args := xs, argTypes := ts }) (h : wpList P ops Q (o :: rest) a W) : wpList P ops Q (o :: rest) a W := h
theorem gate_bi {F : Fence} {n : Nat} {P : Program} {ops : Array Oper} {rest : List Oper} {o : Oper} {a : Act} {Q : Exit → Act → World → Prop} {W : World} {b : Builtin} {xs : Array Operand} {ts : Array TypeId} (_ho : o.op = .call { callee := .builtin b, args := xs, argTypes := ts }) (h : wpListIn F n P ops Q (o :: rest) a W) : wpListIn F n P ops Q (o :: rest) a W := h
theorem tk_below {V : World} {ob : Nat} {vo : Value} {out : List Int} {Ds : List Nat} {X Y : World} (h : TK V ob vo out Ds X) (hb : Below X.heap.size X Y) : TK V ob vo out Ds Y :=
  ⟨blk_keep hb h.1, Kd.R_below h.2.1 hb, h.2.2.1.trans (hb.mono (Nat.le_of_lt (blk_lt h.1))), h.2.2.2.1, fun D hD => ⟨(h.2.2.2.2 D hD).1, blk_keep hb (h.2.2.2.2 D hD).2⟩⟩
section
variable {F : Fence} {n : Nat} {P : Program}
/-- append of one number, within a round. -/
theorem app_in {ops : Array Oper} {rest : List Oper} {o : Oper} {a : Act} {Q : Exit → Act → World → Prop} {w0 W : World} (base : Nat) (hgd : o.guard = none) (s x : Operand) (t e : TypeId)
    (ho : o.op = .call { callee := .builtin .append, args := #[s, x], argTypes := #[t, t] }) (ht : P.underlying t = some (.slice e)) (hinfo : (P.info? e).map (fun i => (i.zero, i.size, i.bytes)) = some (some (.int .i64 0), 1, 8))
    (v : Value) (xs : List Int) (p : Int) (hs : a.eval s = v) (hx : a.eval x = .slice (some ⟨W.heap.size, 0, none⟩) 1 1) (HO : Kd.R kI e W base (fun _ => True) v xs) (HB : Below base w0 W) (hbase : base ≤ W.heap.size) (hl : (xs.length + 1) * 8 ≤ 140737488355328)
    (h : ∀ v1 w1, Kd.R kI e w1 base (fun _ => True) v1 (xs ++ [p]) → Below base w0 w1 → W.grownBy w1 v.ownBlock → wpListIn F n P ops Q rest (a.put o.dst v1) w1) :
    wpListIn F n P ops Q (o :: rest) a (W.alloc (.cells #[.int .i64 p] e)) := by
  obtain ⟨i0, hi, hzz⟩ := Option.map_eq_some_iff.1 hinfo
  simp only [Prod.mk.injEq] at hzz
  obtain ⟨hz0, hz1, hz2⟩ := hzz
  obtain ⟨h0, inner, HO, hr⟩ := HO
  refine wpListIn_append_own (W.alloc (.cells #[.int .i64 p] e)) hgd s x t ho base e i0 (.int .i64 0) 1 8 ht hi hz0 hz1 hz2 rfl (by omega) v xs.length inner hs (HO.alloc _) ⟨W.heap.size, 0, none⟩ 1 1 [.int .i64 p] hx rfl
    (by simpa using World.news_of_block (cs := #[.int .i64 p]) (t := e) (fr := (0, 0)) (heap_alloc_new W (.cells #[.int .i64 p] e))) (by simp [Value.oneCell']) (by simp only [maxLen]; omega) hl (by simp; omega) ?_
  intro v1 w1 hown hg _
  refine h v1 w1 ⟨fun _ _ => trivial, inner ++ [.int .i64 p], ?_, ?_⟩ ((HB.alloc hbase _).grown hg (by simp; omega) (own_base HO)) (World.grownBy.trans (World.grownBy_alloc W _ _) hg)
  · show World.ownsRow w1 base e 1 v1 (xs ++ [p]).length _
    simpa using hown
  · exact (hr.imp_ (fun _ _ hq => hq)).snoc rfl rfl
/-- append of one number. -/
theorem app_out {ops : Array Oper} {rest : List Oper} {o : Oper} {a : Act} {Q : Exit → Act → World → Prop} {w0 W : World} (base : Nat) (hgd : o.guard = none) (s x : Operand) (t e : TypeId)
    (ho : o.op = .call { callee := .builtin .append, args := #[s, x], argTypes := #[t, t] }) (ht : P.underlying t = some (.slice e)) (hinfo : (P.info? e).map (fun i => (i.zero, i.size, i.bytes)) = some (some (.int .i64 0), 1, 8))
    (v : Value) (xs : List Int) (p : Int) (hs : a.eval s = v) (hx : a.eval x = .slice (some ⟨W.heap.size, 0, none⟩) 1 1) (HO : Kd.R kI e W base (fun _ => True) v xs) (HB : Below base w0 W) (hbase : base ≤ W.heap.size) (hl : (xs.length + 1) * 8 ≤ 140737488355328)
    (h : ∀ v1 w1, Kd.R kI e w1 base (fun _ => True) v1 (xs ++ [p]) → Below base w0 w1 → W.grownBy w1 v.ownBlock → wpList P ops Q rest (a.put o.dst v1) w1) :
    wpList P ops Q (o :: rest) a (W.alloc (.cells #[.int .i64 p] e)) :=
  Kd.R_append kI base hgd s x t e (.int .i64 0) 8 ho ht hinfo rfl (Nat.zero_lt_one) (by omega) v xs p [.int .i64 p] (fun _ => True) (fun _ => False) hs hx rfl (fun _ hk => hk.elim) (fun _ _ => trivial) HO HB hbase hl (fun v1 w1 h1 h2 h3 _ => h v1 w1 h1 h2 h3)
/-- A range over a function whose variable lies in a box of its own in every round. -/
theorem range_box {α : Type} {g : Operand} {ps : Array Tmp} {assign body : Code} {Q : Exit → Act → World → Prop} {a : Act} {w : World}
    (hro : F.round = none) (h1 : 1 ≤ n) {gf : Nat} {lb : Array Value} (hg : a.eval g = .func (.func gf) #[] lb) (hFg : F.fn gf) (eg : ∀ args w, (callFunc gf args).run P w = .ok (.enter gf args) w)
    {encs : α → Array Value} {Kp : World → World → Prop} {S Sp : List α → Prop} {N : Nat} (hseq : SeqStopsK F (n - 1) P gf lb encs Kp S Sp N w)
    (hKt : ∀ {A B C : World}, Kp A B → Kp B C → Kp A C) (hKb : ∀ (W : World) (l : Nat) (o o' : Obj), w.heap.size ≤ l → W.heap[l]? = some o → o.isCells = false → o.isWalk = false → Kp W (W.putObj l o')) (hps : ∀ x, (encs x).size = ps.size)
    (hKa : ∀ (W : World) (o : Obj), w.heap.size ≤ W.heap.size → Kp W (W.alloc o))
    (I : List α → World → Prop) (Ix : Code → List α → World → Prop) (hI : OwnFrom w.heap.size I) (hIx : ∀ c, OwnFrom w.heap.size (Ix c)) (h0 : I [] w) (hIs : ∀ pre W, I pre W → w.heap.size ≤ W.heap.size) (cells : α → Array Value) (t : TypeId)
    (hbody : ∃ fr : α → Nat → Act, (∀ (l : Nat) (x : α) (G : Nat) (W : World) (K : Act → World → Prop), G = W.heap.size → Hid (K (fr x G) (W.alloc (.cells (cells x) t))) →
        assign.wpIn (F.inRound l) (n - 1 - 1) P (Exit.then K (fun _ _ _ => False)) { tmps := (ps.zip (encs x)).foldl (fun t (p, v) => t.setIfInBounds p v) a.tmps, defers := [] } W) ∧
      ∀ (l : Nat) (pre : List α) (x : α) (G : Nat) (W : World), w.heap.size ≤ G → I pre W → W.heap[G]? = some (.cells (cells x) t (0, 0)) → pre.length < N → body.wpIn (F.inRound l) (n - 1 - 1) P (ownPostK Kp I Ix (pre ++ [x]) W) (fr x G) W)
    (hdone : ∀ (D : Nat) (xs : List α) (W : World), w.heap.size ≤ D → S xs → I xs W → W.heap[D]? = some (.deferred (some [])) → Q .normal { a with defers := { target := .collected D, args := #[] } :: a.defers } W)
    (hstop : ∀ (D : Nat) (c : Code) (pre : List α) (W : World), w.heap.size ≤ D → Sp pre → Ix c pre W → W.heap[D]? = some (.deferred (some [])) → c.wpIn F n P Q { a with defers := { target := .collected D, args := #[] } :: a.defers } W) :
    (Code.rangeFunc g ps assign body).wpIn F n P Q a w := by
  obtain ⟨fr, ha, hb⟩ := hbody
  refine wpIn_rangeFunc_ownH hro h1 hg hFg eg hseq hKt hKb (Below.refl _ _) hps I Ix hI hIx h0 (fun x a' W => ∃ G, w.heap.size ≤ G ∧ a' = fr x G ∧ W.heap[G]? = some (.cells (cells x) t (0, 0))) ?_ ?_ ?_ hdone hstop
  · rintro x a' _ X Y row ⟨G, hG, rfl, hc⟩ hg' hr
    exact ⟨G, hG, rfl, cells_kept hg' hr _ _ _ _ hc⟩
  · intro l pre x W K hi hK
    exact ha l x _ W K rfl (Lib.hid (hK _ _ ((KeepsOthers.alloc W _).from _) (hKa W _ (hIs _ _ hi)) (hI.alloc _ hi) ⟨W.heap.size, hIs _ _ hi, rfl, blk_new W _⟩))
  · rintro l pre x a' W hl hr hi ⟨G, hG, rfl, hc⟩ hN
    exact wpIn_mono (hb l pre x G W hG hi hc hN) ownPostG_of_ownPostK
end
set_option maxRecDepth 100000 in
set_option maxHeartbeats 8000000 in
theorem through_calls (A1 A8 A9 A10 A11 : Option Addr) (c1 c8 c9 c10 c11 : Nat) (C : S28) (w : World) (h : CfgIn w C A1 A8 A9 A10 A11 c1 c8 c9 c10 c11) (length offset : Int) (A : Option Addr) (c : Nat) (l : List Sh) (hr : Kd.C k32 w A l.length l) (hmx : l.length ≤ 1000000) :
    Calls Try.prog 20 #[.agg #[.int .i64 C.f0, .slice A1 C.f1.length c1, .int .i64 C.f2, .int .i64 C.f3, .int .i64 C.f4, .int .i64 C.f5, .int .i64 C.f6, .int .i64 C.f7, .slice A8 C.f8.length c8, .slice A9 C.f9.length c9, .slice A10 C.f10.length c10, .slice A11 C.f11.length c11], .int .i64 length, .int .i64 offset, .slice A l.length c] w fun e w' => ∃ v, e = .returned (.tuple #[v, .int .i64 (mayW C length offset l)]) ∧ Kd.R kI 3 w' w.heap.size (fun _ => True) v (if mayW C length offset l = 0 then thr C length offset l l.length else []) ∧ Below w.heap.size w w' := by
  have HR := Lib.hid h
  have HL := Lib.hid hr
  have HBa := Lib.hid (show Below w.heap.size w (w.alloc (Obj.cells #[.int .i64 C.f0, .slice A1 C.f1.length c1, .int .i64 C.f2, .int .i64 C.f3, .int .i64 C.f4, .int .i64 C.f5, .int .i64 C.f6, .int .i64 C.f7, .slice A8 C.f8.length c8, .slice A9 C.f9.length c9, .slice A10 C.f10.length c10, .slice A11 C.f11.length c11] 28)) from (Below.refl _ _).alloc (Nat.le_refl _) _)
  clear h hr
  obtain ⟨res, hres⟩ : ∃ res : List Int, res = (if mayW C length offset l = 0 then thr C length offset l l.length else []) := ⟨_, rfl⟩
  rw [← hres]
  obtain ⟨n, hn⟩ : ∃ n, n = mayW C length offset l := ⟨_, rfl⟩
  rw [← hn] at hres ⊢
  have HRS := Lib.hid hres
  clear hres
  have HNN := Lib.hid hn
  clear hn
  refine callsIn_wide.1 (callsIn_of_wp_marks (n := 9) Try.func20 rfl trivial (wpIn_wide.2 ?_) rfl)
  simp only [Try.ntmps20, List.size_toArray, List.length_cons, List.length_nil, Nat.reduceAdd, Nat.reduceSub, Array.replicate_succ, Array.replicate_zero, List.push_toArray, List.append_toArray, List.nil_append, List.cons_append]
  have hcb := blk_new w (Obj.cells #[.int .i64 C.f0, .slice A1 C.f1.length c1, .int .i64 C.f2, .int .i64 C.f3, .int .i64 C.f4, .int .i64 C.f5, .int .i64 C.f6, .int .i64 C.f7, .slice A8 C.f8.length c8, .slice A9 C.f9.length c9, .slice A10 C.f10.length c10, .slice A11 C.f11.length c11] 28)
  have HC := Lib.hid hcb
  clear hcb
  go_wp2
  go_step3
  go_wp2_with fail
  refine (may_calls _ _ _ _ _ _ _ _ _ _ C _ (HR.out.below HBa.out) length offset A c l (Kd.C_below HL.out HBa.out)).mono ?_
  rintro e W1 ⟨rfl, hb1⟩
  rw [← HNN.out]
  have HB1 := Lib.hid (HBa.out.trans (hb1.mono HBa.out.size))
  have HC1 := Lib.hid (blk_keep hb1 HC.out)
  clear hb1
  by_cases h0 : n = 0
  case neg =>
    have e0 : (n != 0) = true := by simpa using h0
    have HE := Lib.hid (show res = [] by rw [HRS.out, if_neg h0])
    clear h0
    go_wp2
    rw [Exit.noGoto_ret]
    refine ⟨.tuple #[.slice none 0 0, .int .i64 n], by simp [results, Try.f20, go_sem], _, rfl, by rw [HE.out]; exact Kd.R_nil _ _ _ _ _, HB1.out⟩
  obtain ⟨-, m1, m2, m3, m4, -, m5⟩ := may_bounds (HNN.out.symm.trans h0)
  have HM5 := Lib.hid m5
  clear m5
  subst h0
  have HE := Lib.hid (show res = thr C length offset l l.length by rw [HRS.out, if_pos rfl])
  clear HRS
  obtain ⟨g0, g1, g2, g3, g4, g5, g6, g7, g8, g9, g10, g11⟩ := cfg_cells HC1.out
  go_wp2_with fail
  refine (judge_calls _ _ _ _ _ _ _ _ _ _ C length offset _).mono ?_
  rintro e W2 ⟨rfl, hW2⟩
  clear g0 g1 g2 g3 g4 g5 g6 g7 g8 g9 g10 g11
  have hs2 : W2.heap.size = W1.heap.size + 1 + 1 + 1 := by rw [hW2]; simp
  have HB2 := Lib.hid (show Below w.heap.size w W2 by rw [hW2]; exact ((HB1.out.alloc HB1.out.size _).alloc (by simp; have := HB1.out.size; omega) _).alloc (by simp; have := HB1.out.size; omega) _)
  have Hkl := Lib.hid (show W2.cell? ⟨W1.heap.size + 1, 0, none⟩ = some (.int .i64 length) by rw [hW2]; exact blk_cell (blk_alloc (blk_new_at _ _ (by simp)) _) 0)
  have Hko := Lib.hid (show W2.cell? ⟨W1.heap.size + 1 + 1, 0, none⟩ = some (.int .i64 offset) by rw [hW2]; exact blk_cell (blk_new_at _ _ (by simp)) 0)
  have Hkc := Lib.hid (show W2.heap[W1.heap.size]? = some (Obj.cells #[.int .i64 C.f0, .slice A1 C.f1.length c1, .int .i64 C.f2, .int .i64 C.f3, .int .i64 C.f4, .int .i64 C.f5, .int .i64 C.f6, .int .i64 C.f7, .slice A8 C.f8.length c8, .slice A9 C.f9.length c9, .slice A10 C.f10.length c10, .slice A11 C.f11.length c11] 28) by rw [hW2]; exact blk_alloc (blk_alloc (blk_new_at _ _ (by simp)) _) _)
  clear hW2
  have hsw := HB1.out.size
  go_wp2
  go_step3
  go_wp2
  have hVb : (W2.alloc (Obj.cells #[.slice none 0 0] 22)).heap[W1.heap.size + 1 + 1 + 1]? = some (Obj.cells #[.slice none 0 0] 22) := blk_new_at _ _ hs2.symm
  have hbV : Below W2.heap.size W2 (W2.alloc (Obj.cells #[.slice none 0 0] 22)) := (Below.refl _ _).alloc (Nat.le_refl _) _
  have HV := Lib.hid (HB2.out.trans (hbV.mono HB2.out.size))
  have Vkl := Lib.hid ((hbV.cell (World.block_lt_of_cell? _ _ Hkl.out)).trans Hkl.out)
  have Vko := Lib.hid ((hbV.cell (World.block_lt_of_cell? _ _ Hko.out)).trans Hko.out)
  have Vkc := Lib.hid (blk_keep hbV Hkc.out)
  clear hbV Hkl Hko Hkc
  obtain ⟨V, hV⟩ : ∃ V, W2.alloc (Obj.cells #[.slice none 0 0] 22) = V := ⟨_, rfl⟩
  rw [hV] at hVb HV Vkl Vko Vkc ⊢
  clear hV
  obtain ⟨ob, hob⟩ : ∃ ob, ob = W1.heap.size + 1 + 1 + 1 := ⟨_, rfl⟩
  rw [← hob] at hVb hs2 ⊢
  have hwV := HV.out.size
  have hB1 : W1.heap.size + 1 + 1 < ob := by omega
  have hwo : w.heap.size ≤ ob := by omega
  clear hob hs2
  refine wp_loop (TI A1 A8 A9 A10 A11 c1 c8 c9 c10 c11 C length offset A c l V w.heap.size W1.heap.size ob) (fun a _ => l.length - (intOf (a.tmps.getD 31 undef)).toNat) ?_ ?_
  · exact ⟨0, _, [], _, _, _, _, _, _, _, _, _, _, _, _, _, _, _, _, _, _, _, _, _, _, _, _, _, _, _, _, _, _, _, _, _, _, rfl, by omega, hVb, Kd.R_nil _ _ _ _ _, Below.refl _ _, Marked.nil _ _⟩
  · intro a W hI
    obtain ⟨k, vo, Ds, hI⟩ := hI
    obtain ⟨u14, hI⟩ := hI
    obtain ⟨u15, hI⟩ := hI
    obtain ⟨u16, hI⟩ := hI
    obtain ⟨u32, hI⟩ := hI
    obtain ⟨u33, hI⟩ := hI
    obtain ⟨u34, hI⟩ := hI
    obtain ⟨u35, hI⟩ := hI
    obtain ⟨u36, hI⟩ := hI
    obtain ⟨u37, hI⟩ := hI
    obtain ⟨u38, hI⟩ := hI
    obtain ⟨u39, hI⟩ := hI
    obtain ⟨u40, hI⟩ := hI
    obtain ⟨u41, hI⟩ := hI
    obtain ⟨u42, hI⟩ := hI
    obtain ⟨u43, hI⟩ := hI
    obtain ⟨u44, hI⟩ := hI
    obtain ⟨u45, hI⟩ := hI
    obtain ⟨u46, hI⟩ := hI
    obtain ⟨u47, hI⟩ := hI
    obtain ⟨u48, hI⟩ := hI
    obtain ⟨u49, hI⟩ := hI
    obtain ⟨u50, hI⟩ := hI
    obtain ⟨u51, hI⟩ := hI
    obtain ⟨u52, hI⟩ := hI
    obtain ⟨u53, hI⟩ := hI
    obtain ⟨u54, hI⟩ := hI
    obtain ⟨u55, hI⟩ := hI
    obtain ⟨u56, hI⟩ := hI
    obtain ⟨u57, hI⟩ := hI
    obtain ⟨u58, hI⟩ := hI
    obtain ⟨u59, hI⟩ := hI
    obtain ⟨u60, hI⟩ := hI
    obtain ⟨u61, hI⟩ := hI
    obtain ⟨u62, hI⟩ := hI
    obtain ⟨rfl, hk, hT⟩ := hI
    have HT := Lib.hid hT
    clear hT hVb
    have HWw := Lib.hid (HV.out.trans (HT.out.2.2.1.mono (by omega)))
    by_cases hlt : k < l.length
    · obtain ⟨ad, x, e1, p0, p1, p2, HX⟩ := at_S (Kd.C_below HL.out HWw.out) k hlt
      subst e1
      obtain ⟨out, hout⟩ : ∃ out, out = thr C length offset l k := ⟨_, rfl⟩
      have hol : out.length = k := by rw [hout, thr_len]
      have HOL := Lib.hid hol
      have HOUT := Lib.hid hout
      clear hol
      rw [← hout] at HT
      clear hout
      obtain ⟨Ao, co, rfl, hcap, -⟩ := Kd.R_reads HT.out.2.1
      have HSTEP := Lib.hid (thr_at (C := C) (length := length) (offset := offset) HX.out)
      have hxok : shotOk x = true := List.all_eq_true.1 HM5.out x (List.mem_of_getElem? HX.out)
      have hc0 := blk_cell HT.out.1 0
      go_wp2_with fail
      have HTx := Lib.hid (tk_alloc HT.out (Obj.cells #[.int .i64 x.f0, .int .i64 x.f1, .int .i64 x.f2] 32))
      have hbx := blk_new W (Obj.cells #[.int .i64 x.f0, .int .i64 x.f1, .int .i64 x.f2] 32)
      have kl := ((tk_alloc HT.out (Obj.cells #[.int .i64 x.f0, .int .i64 x.f1, .int .i64 x.f2] 32)).2.2.1.cell (p := ⟨W1.heap.size + 1, 0, none⟩) (by dsimp only; omega)).trans Vkl.out
      have ko := ((tk_alloc HT.out (Obj.cells #[.int .i64 x.f0, .int .i64 x.f1, .int .i64 x.f2] 32)).2.2.1.cell (p := ⟨W1.heap.size + 1 + 1, 0, none⟩) (by dsimp only; omega)).trans Vko.out
      have kc := ((tk_alloc HT.out (Obj.cells #[.int .i64 x.f0, .int .i64 x.f1, .int .i64 x.f2] 32)).2.2.1.block W1.heap.size (by omega)).trans Vkc.out
      have hRW := HR.out.below (HWw.out.alloc HWw.out.size (Obj.cells #[.int .i64 x.f0, .int .i64 x.f1, .int .i64 x.f2] 32))
      refine (judge1_calls _ _ _ _ _ _ _ _ _ _ C length offset x _ _ _ _ hRW m1 m2 m3 m4 hxok kl ko kc).mono ?_
      clear kl ko kc hRW
      rintro e W5 ⟨rfl, hb5⟩
      have HT5 := Lib.hid (tk_below HTx.out hb5)
      have HX5 := Lib.hid (blk_keep hb5 hbx)
      have hmk := HX5.out
      clear hb5 hbx HTx hc0 p0 p1 p2 hxok
      obtain ⟨G, hG⟩ : ∃ G, G = W.heap.size := ⟨_, rfl⟩
      have hoG : ob < G := by rw [hG]; exact blk_lt HT.out.1
      rw [← hG] at HX5 hmk ⊢
      clear hG
      obtain ⟨v, hv⟩ : ∃ v, v = verdictW C length offset x := ⟨_, rfl⟩
      have HV' := Lib.hid hv
      rw [← hv]
      clear hv
      have hc5 := blk_cell HT5.out.1 0
      by_cases hv0 : v = 0
      · have e0 : (v == 0) = true := by simpa using hv0
        have HV0 := Lib.hid hv0
        clear hv0
        go_wp2_with fail
        refine (callsIn_wide.1 (passed_in Fence.wide 9 trivial rfl (some ad) Ao l.length c out.length co W5)).mono ?_
        rintro e W6 ⟨rfl, hW6⟩
        have hT6 : TK V ob (.slice Ao out.length co) out Ds W6 := by rw [hW6]; exact tk_alloc (tk_alloc HT5.out _) _
        have hX6 : W6.heap[G]? = some (Obj.cells #[.int .i64 x.f0, .int .i64 x.f1, .int .i64 x.f2] 32) := by rw [hW6]; exact blk_alloc (blk_alloc HX5.out _) _
        have hbl : W6.cell? ⟨W5.heap.size, 0, none⟩ = some (.slice (some ad) l.length c) := by rw [hW6]; exact blk_cell (blk_alloc (blk_new _ _) _) 0
        have hbo : W6.cell? ⟨W5.heap.size + 1, 0, none⟩ = some (.slice Ao out.length co) := by rw [hW6]; exact blk_cell (blk_new_at _ _ (by simp)) 0
        clear hW6
        have HL6 := Lib.hid (Kd.C_below HL.out (HV.out.trans (hT6.2.2.1.mono (by omega))))
        have HO6 := Lib.hid (Kd.R_reads' hT6.2.1).2.2
        have hoG6 : ob ≤ W6.heap.size := Nat.le_of_lt (blk_lt hT6.1)
        have hDs6 : ∀ D ∈ Ds, D < W6.heap.size := fun D hD => blk_lt (hT6.2.2.2.2 D hD).2
        clear hc5 hmk
        go_wp2_with fail
        refine wpIn_wide.1 (range_box (F := Fence.wide) (n := 9) rfl (by omega) (gf := 44) rfl trivial (fun args w => rfl) (passed_stops Fence.wide (9 - 1) trivial rfl (by omega) W5.heap.size (W5.heap.size + 1) (some ad) Ao l out c co (by have := HOL.out; omega) (by omega) W6 hbl hbo HL6.out HO6.out) Below.trans (fun X q o o' hq hx h1 _ => (Below.refl _ X).grown (grownBy_putObj' X q o') (Nat.le_trans hq (Nat.le_of_lt (blk_lt hx))) (fun k e => by cases e; exact hq)) (fun _ => rfl) (fun X o hX => (Below.refl _ _).alloc hX _)
          (fun pre X => TIn V ob (.slice Ao out.length co) out Ds G x pre X ∧ W6.heap.size ≤ X.heap.size) (TEx V ob out Ds x) ?hI ?hIx ⟨⟨⟨hT6, hX6⟩, rfl⟩, Nat.le_refl _⟩ (fun _ _ h => h.2) (fun y => #[.int .i64 y.f0, .int .i64 y.f1, .int .i64 y.f2]) 32 ?hbody ?hdone ?hstop)
        case hI => exact ownFrom_and (tin_own hoG6 hDs6) (fun _ _ _ _ h hg _ => Nat.le_trans h hg.size)
        case hIx => exact fun c => tex_own hoG6 hDs6 c
        case hbody =>
          refine ⟨_, fun l' y Gy X K hGy HK => by gi_wp2; rw [← hGy]; exact HK.out, ?_⟩
          rintro l' pre y Gy X hGy ⟨⟨⟨hTw, hXw⟩, hany⟩, hsz⟩ hYw _
          have HTa := Lib.hid hTw
          have HXw := Lib.hid hXw
          have HAny := Lib.hid hany
          have x1 := blk_cell hXw 1
          have x2 := blk_cell hXw 2
          have y1 := blk_cell hYw 1
          have y2 := blk_cell hYw 2
          have hc7 := blk_cell hTw.1 0
          clear hTw hXw hYw hany
          by_cases hb : mxi x.f1 y.f1 < mni x.f2 y.f2
          · have eb : decide (mxi x.f1 y.f1 < mni x.f2 y.f2) = true := decide_eq_true hb
            have HBb := Lib.hid eb
            clear hb
            gi_wp2_with (first | ((with_reducible refine gate_bi (b := .append) (xs := #[.tmp 55, .tmp 56]) rfl ?_); refine app_in (w0 := V) ob rfl (.tmp 55) (.tmp 56) 22 3 rfl Try.underlying22 info3 _ out 4 rfl rfl HTa.out.2.1 HTa.out.2.2.1 (Nat.le_of_lt (blk_lt HTa.out.1)) (by have := HOL.out; omega) ?_; intro v' W8 ho hb hg; obtain ⟨gg, cc, hvv⟩ := Kd.R_slice ho; rw [List.length_append, List.length_singleton] at hvv; subst hvv; obtain ⟨hT3, hB3, hK3⟩ := tk_app HTa.out hg ho hb; have HT3 := Lib.hid hT3; have HK3 := Lib.hid hK3; have hc8 := blk_cell hB3 0; have hf8 := blk_frozen hB3 0; clear hT3 hB3 hK3 ho hb hg))
            exact ⟨HK3.out, rfl, ⟨_, HT3.out⟩, by simp [clsh, HBb.out]⟩
          · have eb : decide (mxi x.f1 y.f1 < mni x.f2 y.f2) = false := decide_eq_false hb
            have HBb := Lib.hid eb
            clear hb
            gi_wp2
            exact ⟨KeepsOthers.refl _, Below.refl _ _, ⟨⟨HTa.out, HXw.out⟩, by rw [List.any_append, HAny.out]; simp [clsh, HBb.out]⟩, hsz⟩
        case hdone =>
          rintro D xs W7 hD rfl ⟨⟨⟨hT7, hX7⟩, hany⟩, hsz7⟩ hK
          have HTa := Lib.hid (tk_mark hT7 (fun h => by have := hDs6 D h; omega) (by omega) hK)
          have HS := Lib.hid (show thr C length offset l (k + 1) = out ++ [v] by rw [HSTEP.out, ← HOUT.out, stepV, ← HV'.out, if_neg (fun h => by rw [hany] at h; exact absurd h.2 (by simp))])
          have hc7 := blk_cell hT7.1 0
          clear hT7 hX7 hany hK
          go_wp2_with (first | ((with_reducible refine gate_b (b := .append) (xs := #[.tmp 58, .tmp 60]) rfl ?_); at_builtin; refine app_out (w0 := V) ob rfl (.tmp 58) (.tmp 60) 22 3 rfl Try.underlying22 info3 _ out v rfl rfl HTa.out.2.1 HTa.out.2.2.1 (Nat.le_of_lt (blk_lt HTa.out.1)) (by have := HOL.out; omega) ?_; intro v' W8 ho hb hg; obtain ⟨gg, cc, hvv⟩ := Kd.R_slice ho; rw [List.length_append, List.length_singleton] at hvv; subst hvv; obtain ⟨hT3, hB3, -⟩ := tk_app HTa.out hg ho hb; have HT3 := Lib.hid hT3; have hc8 := blk_cell hB3 0; have hf8 := blk_frozen hB3 0; clear hT3 hB3 ho hb hg))
          try rw [Exit.noGoto_exit]
          try rw [Exit.noGoto_normal]
          go_wp2
          rw [show ((k : Int) + 1) = ((k + 1 : Nat) : Int) by omega]
          refine ⟨⟨k + 1, _, D :: Ds, _, _, _, _, _, _, _, _, _, _, _, _, _, _, _, _, _, _, _, _, _, _, _, _, _, _, _, _, _, _, _, _, _, _, rfl, by omega, by rw [HS.out]; exact HT3.out⟩, ?_⟩
          simp [intOf]; omega
        case hstop =>
          rintro D c' pre W7 hD hpre ⟨rfl, ⟨v', hT7⟩, hany⟩ hK
          have HT3 := Lib.hid (tk_mark hT7 (fun h => by have := hDs6 D h; omega) (by omega) hK)
          have HS := Lib.hid (show thr C length offset l (k + 1) = out ++ [4] by rw [HSTEP.out, ← HOUT.out, stepV, ← HV'.out, if_pos ⟨HV0.out, any_pre hpre hany⟩])
          refine wpIn_wide.2 ?_
          clear hT7 hany hK
          go_wp2
          try rw [Exit.noGoto_exit]
          try rw [Exit.noGoto_normal]
          go_wp2
          rw [show ((k : Int) + 1) = ((k + 1 : Nat) : Int) by omega]
          refine ⟨⟨k + 1, _, D :: Ds, _, _, _, _, _, _, _, _, _, _, _, _, _, _, _, _, _, _, _, _, _, _, _, _, _, _, _, _, _, _, _, _, _, _, rfl, by omega, by rw [HS.out]; exact HT3.out⟩, ?_⟩
          simp [intOf]; omega
      · have e0 : (v == 0) = false := by simpa using hv0
        have HS := Lib.hid (show thr C length offset l (k + 1) = out ++ [v] by rw [HSTEP.out, ← HOUT.out, stepV, ← HV'.out, if_neg (fun h => hv0 h.1)])
        have HTa := Lib.hid HT5.out
        clear hv0
        go_wp2_with (first | ((with_reducible refine gate_b (b := .append) (xs := #[.tmp 58, .tmp 60]) rfl ?_); at_builtin; refine app_out (w0 := V) ob rfl (.tmp 58) (.tmp 60) 22 3 rfl Try.underlying22 info3 _ out v rfl rfl HTa.out.2.1 HTa.out.2.2.1 (Nat.le_of_lt (blk_lt HTa.out.1)) (by have := HOL.out; omega) ?_; intro v' W8 ho hb hg; obtain ⟨gg, cc, hvv⟩ := Kd.R_slice ho; rw [List.length_append, List.length_singleton] at hvv; subst hvv; obtain ⟨hT3, hB3, -⟩ := tk_app HTa.out hg ho hb; have HT3 := Lib.hid hT3; have hc8 := blk_cell hB3 0; have hf8 := blk_frozen hB3 0; clear hT3 hB3 ho hb hg))
        try rw [Exit.noGoto_exit]
        try rw [Exit.noGoto_normal]
        go_wp2
        rw [show ((k : Int) + 1) = ((k + 1 : Nat) : Int) by omega]
        refine ⟨⟨k + 1, _, Ds, _, _, _, _, _, _, _, _, _, _, _, _, _, _, _, _, _, _, _, _, _, _, _, _, _, _, _, _, _, _, _, _, _, _, rfl, by omega, by rw [HS.out]; exact HT3.out⟩, ?_⟩
        simp [intOf]; omega
    · have hke : k = l.length := by omega
      subst hke
      have hc0 := blk_cell HT.out.1 0
      go_wp2
      rw [Exit.noGoto_ret]
      refine leaves_marked Ds _ HT.out.2.2.2 (fun W' hW' => ?_)
      refine ⟨.tuple #[vo, .int .i64 0], by simp [results, Try.f20, go_sem], vo, rfl, ?_, ?_⟩
      · rw [HE.out]; exact Kd.R_lower (R_cells HT.out.2.1 (fun k cs t fr h => hW'.2 k cs t fr h)) (by omega)
      · exact HWw.out.trans (hW'.1.mono (by omega))
end Go.Proofs.Ytloibbfihkfeeaa
