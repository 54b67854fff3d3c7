/- What 'First' answers. -/
import Derived.Test.YtnbcnkpcmjkglaaF
import Derived.Test.YtnbcnkpcmjkglaaPx3
namespace Go.Proofs.Ytnbcnkpcmjkglaa
open Go.RowKit Go.Shelf Go.Proofs.Ytnbcnkpcmjkglaa.Px Go.Proofs.YtnbcnkpcmjkglaaW.PrintWords Go.Proofs.YtnbcnkpcmjkglaaW.PrintLast
attribute [local go_sem] Oper.semAt_some

/-! The marks of ranges over functions that a frame bears. -/
def mark (D : Nat) : Deferred := { target := .collected D, args := #[] }
/-- Each mark's block is there, beyond B, and no two are one. -/
def Marked (B : Nat) (Ds : List Nat) (W : World) : Prop := Ds.Nodup ∧ ∀ D ∈ Ds, B ≤ D ∧ W.heap[D]? = some (.deferred (some []))
theorem Marked.nil (B : Nat) (W : World) : Marked B [] W := ⟨List.nodup_nil, fun D h => by simp at h⟩
theorem Marked.one {B D : Nat} {W : World} (h : B ≤ D) (hk : W.heap[D]? = some (.deferred (some []))) : Marked B [D] W := ⟨by simp, fun D' h' => by rw [List.mem_singleton.1 h']; exact ⟨h, hk⟩⟩
/-- What was cells lies as it lay, and nothing below B has turned. -/
def Kept0 (B : Nat) (W W' : World) : Prop := Below B W W' ∧ ∀ (k : Nat) (cs : Array Value) (t : TypeId) (fr : Nat × Nat), W.heap[k]? = some (Obj.cells cs t fr) → W'.heap[k]? = some (Obj.cells cs t fr)
theorem leaves_marked {F : Fence} {n : Nat} {P : Program} {fn : Func} {tmps : Array Value} {R : Ending → World → Prop} {B : Nat} (Ds : List Nat) : ∀ (W : World), Marked B Ds W → (∀ W', Kept0 B W W' → LeavesIn F n P fn tmps R [] .returning W') → LeavesInM F n P fn tmps R (Ds.map mark) .returning W := by
  induction Ds with
  | nil => exact fun W _ h => h W ⟨Below.refl _ _, fun _ _ _ _ h => h⟩
  | cons D Ds ih =>
    intro W hm h
    obtain ⟨hn, ha⟩ := hm
    obtain ⟨hD, hk⟩ := ha D (by simp)
    have hlt := (Array.getElem?_eq_some_iff.1 hk).1
    have hm2 : Marked B Ds (W.putObj D (.deferred none)) := by
      refine ⟨(List.nodup_cons.1 hn).2, fun D' h' => ?_⟩
      obtain ⟨h1, h2⟩ := ha D' (List.mem_cons_of_mem _ h')
      refine ⟨h1, ((grownBy_putObj' W D (.deferred none)).block D' (Array.getElem?_eq_some_iff.1 h2).1 (fun e => ?_)).trans h2⟩
      cases e
      exact (List.nodup_cons.1 hn).1 h'
    refine ⟨by simp, .inl ⟨D, _, rfl, run_takeDeferred hk, ih _ hm2 (fun W' hW' => h W' ⟨?_, ?_⟩)⟩⟩
    · exact ((Below.refl B W).grown (grownBy_putObj' W D (.deferred none)) (by omega) (fun k e => by cases e; exact hD)).trans hW'.1
    · intro k cs t fr hc
      refine hW'.2 k cs t fr (((grownBy_putObj' W D (.deferred none)).block k (Array.getElem?_eq_some_iff.1 hc).1 (fun e => ?_)).trans hc)
      cases e
      rw [hk] at hc; cases hc
theorem ownFrom_blk {α : Type} {B g : Nat} {t : TypeId} {cs : Array Value} : OwnFrom B (fun (_ : List α) W => W.heap[g]? = some (Obj.cells cs t (0, 0))) := fun _ _ _ _ hs hg hr =>
  (hg.block g (Array.getElem?_eq_some_iff.1 hs).1 (fun e' => by obtain ⟨_, o, ho, hc⟩ := hr g e'.symm; rw [hs] at ho; cases ho; cases hc)).trans hs
theorem ownFrom_below' {α : Type} {B s : Nat} {w : World} (hs : s ≤ B) (h2 : s ≤ w.heap.size) : OwnFrom B (fun (_ : List α) W => Below s w W) := fun _ _ _ _ hb hg hr =>
  hb.grown hg (Nat.le_trans h2 hb.size) (fun k e => by obtain ⟨h, _⟩ := hr k e; omega)
theorem ownFrom_and {α : Type} {B : Nat} {I J : List α → World → Prop} (h : OwnFrom B I) (k : OwnFrom B J) : OwnFrom B (fun l W => I l W ∧ J l W) := fun s X Y row hs hg hr => ⟨h s X Y row hs.1 hg hr, k s X Y row hs.2 hg hr⟩
theorem ownFrom_const {α : Type} {B : Nat} (p : List α → Prop) : OwnFrom B (fun l _ => p l) := fun _ _ _ _ h _ _ => h
/-- What was cells lies as it lay. -/
theorem cells_kept {X Y : World} {row : Option Nat} {B : Nat} (hg : X.grownBy Y row) (hr : ∀ r, row = some r → B ≤ r ∧ ∃ o : Obj, X.heap[r]? = some o ∧ o.isCells = false) : ∀ (k : Nat) (cs : Array Value) (t : TypeId) (fr : Nat × Nat), X.heap[k]? = some (Obj.cells cs t fr) → Y.heap[k]? = some (Obj.cells cs t fr) := fun g cs t fr h =>
  (hg.block g (Array.getElem?_eq_some_iff.1 h).1 (fun e' => by obtain ⟨_, o, ho, hc⟩ := hr g e'.symm; rw [h] at ho; cases ho; cases hc)).trans h
section
variable {F : Fence} {n : Nat} {P : Program}
/-- A range over a function whose variable lies in a box of its own in every round. -/
theorem range_box {α : Type} {g : Operand} {ps : Array Tmp} {assign body : Code} {Q : Exit → Act → World → Prop} {a : Act} {w : World}
    (hro : F.round = none) (h1 : 1 ≤ n) {gf : Nat} {lb : Array Value} (hg : a.eval g = .func (.func gf) #[] lb) (hFg : F.fn gf) (eg : ∀ args w, (callFunc gf args).run P w = .ok (.enter gf args) w)
    {encs : α → Array Value} {Kp : World → World → Prop} {S Sp : List α → Prop} {N : Nat} (hseq : SeqStopsK F (n - 1) P gf lb encs Kp S Sp N w)
    (hKt : ∀ {A B C : World}, Kp A B → Kp B C → Kp A C) (hKb : ∀ (W : World) (l : Nat) (o o' : Obj), w.heap.size ≤ l → W.heap[l]? = some o → o.isCells = false → o.isWalk = false → Kp W (W.putObj l o')) (hps : ∀ x, (encs x).size = ps.size)
    (hKa : ∀ (W : World) (o : Obj), w.heap.size ≤ W.heap.size → Kp W (W.alloc o))
    (I : List α → World → Prop) (Ix : Code → List α → World → Prop) (hI : OwnFrom w.heap.size I) (hIx : ∀ c, OwnFrom w.heap.size (Ix c)) (h0 : I [] w) (hIs : ∀ pre W, I pre W → w.heap.size ≤ W.heap.size) (cells : α → Array Value) (t : TypeId)
    (hbody : ∃ fr : α → Nat → Act, (∀ (l : Nat) (x : α) (G : Nat) (W : World) (K : Act → World → Prop), G = W.heap.size → Hid (K (fr x G) (W.alloc (.cells (cells x) t))) →
        assign.wpIn (F.inRound l) (n - 1 - 1) P (Exit.then K (fun _ _ _ => False)) { tmps := (ps.zip (encs x)).foldl (fun t (p, v) => t.setIfInBounds p v) a.tmps, defers := [] } W) ∧
      ∀ (l : Nat) (pre : List α) (x : α) (G : Nat) (W : World), w.heap.size ≤ G → I pre W → W.heap[G]? = some (.cells (cells x) t (0, 0)) → pre.length < N → body.wpIn (F.inRound l) (n - 1 - 1) P (ownPostK Kp I Ix (pre ++ [x]) W) (fr x G) W)
    (hdone : ∀ (D : Nat) (xs : List α) (W : World), w.heap.size ≤ D → S xs → I xs W → W.heap[D]? = some (.deferred (some [])) → Q .normal { a with defers := { target := .collected D, args := #[] } :: a.defers } W)
    (hstop : ∀ (D : Nat) (c : Code) (pre : List α) (W : World), w.heap.size ≤ D → Sp pre → Ix c pre W → W.heap[D]? = some (.deferred (some [])) → c.wpIn F n P Q { a with defers := { target := .collected D, args := #[] } :: a.defers } W) :
    (Code.rangeFunc g ps assign body).wpIn F n P Q a w := by
  obtain ⟨fr, ha, hb⟩ := hbody
  refine wpIn_rangeFunc_ownH hro h1 hg hFg eg hseq hKt hKb (Below.refl _ _) hps I Ix hI hIx h0 (fun x a' W => ∃ G, w.heap.size ≤ G ∧ a' = fr x G ∧ W.heap[G]? = some (.cells (cells x) t (0, 0))) ?_ ?_ ?_ hdone hstop
  · rintro x a' _ X Y row ⟨G, hG, rfl, hc⟩ hg' hr
    exact ⟨G, hG, rfl, cells_kept hg' hr _ _ _ _ hc⟩
  · intro l pre x W K hi hK
    exact ha l x _ W K rfl (Lib.hid (hK _ _ ((KeepsOthers.alloc W _).from _) (hKa W _ (hIs _ _ hi)) (hI.alloc _ hi) ⟨W.heap.size, hIs _ _ hi, rfl, blk_at W _⟩))
  · rintro l pre x a' W hl hr hi ⟨G, hG, rfl, hc⟩ hN
    exact wpIn_mono (hb l pre x G W hG hi hc hN) ownPostG_of_ownPostK
end
theorem KpB.bel {B : Nat} {W W' : World} (hB : B < W.heap.size) (h : Below W.heap.size W W') : KpB B W W' :=
  ⟨h.size, fun k cs t fr hk _ _ => (h.block k (Array.getElem?_eq_some_iff.1 hk).1).trans hk, fun v' hv' => .inl ⟨v', by rw [← hv']; exact (h.cell (p := ⟨B, 0, none⟩) hB).symm, rfl⟩⟩
theorem keeps_bel {W W' : World} (h : Below W.heap.size W W') : KeepsOthers W W' := KeepsOthers.of_grownBy (grown_of_below h none) (fun _ _ e => by cases e)
theorem up_eq {n al : Int} (h0 : 0 ≤ n) (h1 : n ≤ 1048576) (h2 : 1 ≤ al) (h3 : al ≤ 1048576) : place_up_int.f n al = some (upI n al) ∧ 0 ≤ upI n al ∧ upI n al ≤ 2097152 := by
  have hd : (n + al - 1).tdiv al = (n + al - 1) / al := Int.tdiv_eq_ediv_of_nonneg (by omega)
  have e1 := Int.emod_nonneg (n + al - 1) (show al ≠ 0 by omega)
  have e2 := Int.emod_lt_of_pos (n + al - 1) (show 0 < al by omega)
  have e3 := Int.mul_ediv_add_emod (n + al - 1) al
  have e4 : al * ((n + al - 1) / al) = (n + al - 1) / al * al := Int.mul_comm _ _
  have e5 : 0 ≤ (n + al - 1) / al := Int.ediv_nonneg (by omega) (by omega)
  have e6 : (n + al - 1) / al ≤ n + al - 1 := Int.ediv_le_self _ (by omega)
  refine ⟨?_, by unfold upI; omega, by unfold upI; omega⟩
  unfold place_up_int.f upI
  rw [if_neg (by omega), IntWalk.wrap64_in (n + al) ⟨by omega, by omega⟩, IntWalk.wrap64_in (n + al - 1) ⟨by omega, by omega⟩, hd, IntWalk.wrap64_in ((n + al - 1) / al) ⟨by omega, by omega⟩, IntWalk.wrap64_in _ ⟨by omega, by omega⟩]
/-- 'free': what it is handed is boxed. -/
theorem free_calls (A : Option Addr) (n c : Nat) (limit : Int) (w : World) :
    Calls Try.prog 23 #[.slice A n c, .int .i64 limit] w fun e w' => e = .returned (.func (.func 30) #[] #[.pointer (some ⟨w.heap.size, 0, none⟩), .pointer (some ⟨w.heap.size + 1, 0, none⟩)]) ∧ w' = (w.alloc (.cells #[.slice A n c] 22)).alloc (.cells #[.int .i64 limit] 3) := by
  go_enter Try.func23, Try.ntmps23
  go_wp2
  go_ret
  exact ⟨rfl, rfl⟩
theorem free_stops (m : Nat) (hm : 1 ≤ m) (Ba Bl B : Nat) (l : List S30) (A : Option Addr) (c : Nat) (limit : Int) (hby : l.length * 16 ≤ 140737488355328) (w : World) (hca : w.cell? ⟨Ba, 0, none⟩ = some (.slice A l.length c)) (hC : Kd.C k30 w A l.length l) (hcl : w.cell? ⟨Bl, 0, none⟩ = some (.int .i64 limit)) (hBl : Bl ≠ B) (hB : ∃ v, w.cell? ⟨B, 0, none⟩ = some v ∧ v.ownBlock = none) :
    SeqStopsK Fence.wide m Try.prog 30 #[.pointer (some ⟨Ba, 0, none⟩), .pointer (some ⟨Bl, 0, none⟩)] (fun x : PF limit => #[.agg #[.int .i64 x.1.1, .int .i64 x.1.2]]) (KpB B) (FreeS l limit) (FreeP l limit) (l.length + 1) w := by
  obtain ⟨v0, hv0, ho0⟩ := hB
  intro l0 J Jx W hW hJ _ hY h0
  have cB := (hW.cell (World.block_lt_of_cell? w _ hv0)).trans hv0
  refine free1_in m hm l0 Ba Bl B l A c limit hby J Jx (fun s X Y hs hb => hJ s X Y none hs (grown_of_below hb none) (fun r e => by cases e)) hY W ((hW.cell (World.block_lt_of_cell? w _ hca)).trans hca) (Kd.C_below hC hW) ((hW.cell (World.block_lt_of_cell? w _ hcl)).trans hcl) hBl (fun v hv => by
    rw [cB] at hv
    cases hv
    exact ho0) (World.block_lt_of_cell? W _ cB) h0
/-- What is free, the spans sorted. -/
def freeL (l : List S30) (limit : Int) : List (Int × Int) := goF limit 0 (((l.filter (keepB limit)).mergeSort (fun a b => decide (a.f0 ≤ b.f0))).map toP)
theorem freeL_runs (l : List S30) (limit : Int) : Runs (fun p => ¬ InS (l.map toP) p) limit 0 (freeL l limit) := by
  refine free_runs' (List.mergeSort_perm _ _) ?_
  have := List.pairwise_mergeSort (le := fun a b : S30 => decide (a.f0 ≤ b.f0)) (fun a b c h1 h2 => by simp only [decide_eq_true_eq] at *; omega) (fun a b => by simp only [Bool.or_eq_true, decide_eq_true_eq]; omega) (l.filter (keepB limit))
  exact this.imp (fun h => by simpa using h)
/-- The first place of a size. -/
def firstV (l : List S30) (size align limit : Int) : Int × Bool := match findF size align (freeL l limit) with | some r => (r, true) | none => (-1, false)
def mayB (size align limit : Int) : Bool := decide (0 ≤ size) && decide (size ≤ 1048576) && decide (1 ≤ align) && decide (align ≤ 1048576) && decide (0 ≤ limit) && decide (limit ≤ 1048576)
theorem may_eq (size align limit : Int) : place_may.f size align limit = some (mayB size align limit) := by
  unfold place_may.f mayB
  by_cases h1 : 0 ≤ size <;> by_cases h2 : size ≤ 1048576 <;> by_cases h3 : 1 ≤ align <;> by_cases h4 : align ≤ 1048576 <;> by_cases h5 : 0 ≤ limit <;> simp [h1, h2, h3, h4, h5]
def place_First.f (_k : Nat) (l : List S30) (size align limit : Int) : Option (Int × Bool) := if l.length ≤ 8796093022208 then some (if mayB size align limit then (if size = 0 then (0, true) else firstV l size align limit) else (-1, false)) else none
theorem place_First.mono : ∀ a0 a1 a2 a3 k, LeO (place_First.f k a0 a1 a2 a3) (place_First.f (k + 1) a0 a1 a2 a3) := fun _ _ _ _ _ => LeO.refl _
theorem findF_app (size align : Int) : ∀ (F G : List (Int × Int)), findF size align F = none → findF size align (F ++ G) = findF size align G
  | [], _, _ => rfl
  | s :: F, G, h => by
    unfold findF at h
    split at h
    · cases h
    · rename_i hn
      rw [List.cons_append, findF, if_neg hn]
      exact findF_app size align F G h
/-- Boxes that stay while the spans go by, and what has come. -/
def FI (w : World) (size align : Int) (fv : Int) (W : World) : Prop :=
  (W.heap[w.heap.size]? = some (Obj.cells #[.int .i64 size] 3 (0, 0)) ∧ W.heap[w.heap.size + 1]? = some (Obj.cells #[.int .i64 align] 3 (0, 0))) ∧ W.heap[w.heap.size + 1 + 1]? = some (Obj.cells #[.int .i64 fv] 3 (0, 0)) ∧ Below w.heap.size w W
theorem FI.own {w X Y : World} {row : Option Nat} {B : Nat} {size align fv : Int} (hg : X.grownBy Y row) (hr : ∀ r, row = some r → B ≤ r ∧ ∃ o : Obj, X.heap[r]? = some o ∧ o.isCells = false) (hB : w.heap.size ≤ B) (h : FI w size align fv X) : FI w size align fv Y :=
  ⟨⟨cells_kept hg hr _ _ _ _ h.1.1, cells_kept hg hr _ _ _ _ h.1.2⟩, cells_kept hg hr _ _ _ _ h.2.1, h.2.2.grown hg h.2.2.size (fun k e => by obtain ⟨h', _⟩ := hr k e; omega)⟩
set_option maxRecDepth 100000 in
set_option maxHeartbeats 8000000 in
theorem place_First.calls (k : Nat) (A0 : Option Addr) (c0 : Nat) (l0 : List S30) (size align limit : Int) (r1 : Int) (r2 : Bool) (w : World) (hr0 : Kd.C k30 w A0 l0.length l0) (_hc0 : l0.length ≤ c0) (h : place_First.f k l0 size align limit = some (r1, r2)) :
    Calls Try.prog 11 #[.slice A0 l0.length c0, .int .i64 size, .int .i64 align, .int .i64 limit] w fun e w' => e = .returned (.tuple #[.int .i64 r1, .bool r2]) ∧ Below w.heap.size w w' := by
  have HR := Lib.hid hr0
  unfold place_First.f at h
  split at h
  case isFalse => cases h
  rename_i hlen
  injection h with h
  have HB := Lib.hid (show Below w.heap.size w ((w.alloc (Obj.cells #[.int .i64 size] 3)).alloc (Obj.cells #[.int .i64 align] 3)) from ((Below.refl _ _).alloc (Nat.le_refl _) _).alloc (by simp) _)
  clear hr0
  refine callsIn_wide.1 (callsIn_of_wp_marks (n := 9) Try.func11 rfl trivial (wpIn_wide.2 ?_) rfl)
  simp only [Try.ntmps11, List.size_toArray, List.length_cons, List.length_nil, Nat.reduceAdd, Nat.reduceSub, Array.replicate_succ, Array.replicate_zero, List.push_toArray, List.append_toArray, List.nil_append, List.cons_append]
  go_wp2
  go_step3
  go_wp2_with fail
  refine (place_may.calls size align limit _ _ (may_eq size align limit)).mono ?_
  rintro e u ⟨rfl, ⟨⟨nd, rfl⟩⟩⟩
  cases hmay : mayB size align limit
  case false =>
    rw [hmay] at h
    simp only [Bool.false_eq_true, if_false] at h
    injection h with e1 e2
    subst e1 e2
    go_wp2
    rw [Exit.noGoto_ret]
    exact ⟨.tuple #[.int .i64 (-1), .bool false], by simp [results, Try.f11, go_sem], rfl, pw_below_drewN HB.out _⟩
  rw [hmay, if_pos rfl] at h
  have hmay' := hmay
  unfold mayB at hmay'
  simp only [Bool.and_eq_true, decide_eq_true_eq] at hmay'
  obtain ⟨⟨⟨⟨⟨m1, m2⟩, m3⟩, m4⟩, m5⟩, m6⟩ := hmay'
  by_cases hz : size = 0
  · rw [if_pos hz] at h
    injection h with e1 e2
    subst e1 e2 hz
    go_wp2
    rw [Exit.noGoto_ret]
    exact ⟨.tuple #[.int .i64 0, .bool true], by simp [results, Try.f11, go_sem], rfl, pw_below_drewN HB.out _⟩
  rw [if_neg hz] at h
  have ez : (size == 0) = false := beq_eq_false_iff_ne.2 hz
  clear hmay
  go_wp2_with fail
  go_step3
  go_wp2_with fail
  refine (free_calls A0 l0.length c0 limit _).mono ?_
  rintro e W3 ⟨rfl, hW3⟩
  have hs3 : ((((w.alloc (Obj.cells #[.int .i64 size] 3)).alloc (Obj.cells #[.int .i64 align] 3)).drewN nd).alloc (Obj.cells #[.int .i64 (-1)] 3)).heap.size = w.heap.size + 1 + 1 + 1 := by
    rw [World.size_alloc]
    show ((w.alloc (Obj.cells #[.int .i64 size] 3)).alloc (Obj.cells #[.int .i64 align] 3)).heap.size + 1 = _
    rw [World.size_alloc, World.size_alloc]
  have hs2 : (((w.alloc (Obj.cells #[.int .i64 size] 3)).alloc (Obj.cells #[.int .i64 align] 3)).drewN nd).heap.size = w.heap.size + 1 + 1 := by
    show ((w.alloc (Obj.cells #[.int .i64 size] 3)).alloc (Obj.cells #[.int .i64 align] 3)).heap.size = _
    rw [World.size_alloc, World.size_alloc]
  rw [hs3]
  have b0 : W3.heap[w.heap.size]? = some (Obj.cells #[.int .i64 size] 3 (0, 0)) := by
    rw [hW3]
    exact blk_alloc (blk_alloc (blk_alloc (show (((w.alloc (Obj.cells #[.int .i64 size] 3)).alloc (Obj.cells #[.int .i64 align] 3)).drewN nd).heap[w.heap.size]? = _ from blk_alloc (blk_at w _) _) _) _) _
  have b1 : W3.heap[w.heap.size + 1]? = some (Obj.cells #[.int .i64 align] 3 (0, 0)) := by
    rw [hW3]
    exact blk_alloc (blk_alloc (blk_alloc (show (((w.alloc (Obj.cells #[.int .i64 size] 3)).alloc (Obj.cells #[.int .i64 align] 3)).drewN nd).heap[w.heap.size + 1]? = _ by
      have := blk_at (w.alloc (Obj.cells #[.int .i64 size] 3)) (Obj.cells #[.int .i64 align] 3)
      rw [World.size_alloc] at this
      exact this) _) _) _
  have b2 : W3.heap[w.heap.size + 1 + 1]? = some (Obj.cells #[.int .i64 (-1)] 3 (0, 0)) := by
    rw [hW3]
    refine blk_alloc (blk_alloc ?_ _) _
    have := blk_at (((w.alloc (Obj.cells #[.int .i64 size] 3)).alloc (Obj.cells #[.int .i64 align] 3)).drewN nd) (Obj.cells #[.int .i64 (-1)] 3)
    rw [hs2] at this
    exact this
  have b3 : W3.heap[w.heap.size + 1 + 1 + 1]? = some (Obj.cells #[.slice A0 l0.length c0] 22 (0, 0)) := by
    rw [hW3]
    refine blk_alloc ?_ _
    have := blk_at ((((w.alloc (Obj.cells #[.int .i64 size] 3)).alloc (Obj.cells #[.int .i64 align] 3)).drewN nd).alloc (Obj.cells #[.int .i64 (-1)] 3)) (Obj.cells #[.slice A0 l0.length c0] 22)
    rw [hs3] at this
    exact this
  have b4 : W3.heap[w.heap.size + 1 + 1 + 1 + 1]? = some (Obj.cells #[.int .i64 limit] 3 (0, 0)) := by
    rw [hW3]
    have := blk_at (((((w.alloc (Obj.cells #[.int .i64 size] 3)).alloc (Obj.cells #[.int .i64 align] 3)).drewN nd).alloc (Obj.cells #[.int .i64 (-1)] 3)).alloc (Obj.cells #[.slice A0 l0.length c0] 22)) (Obj.cells #[.int .i64 limit] 3)
    rw [World.size_alloc, hs3] at this
    exact this
  have hB3 : Below w.heap.size w W3 := by
    rw [hW3]
    exact (((pw_below_drewN HB.out nd).alloc (by rw [hs2]; omega) _).alloc (by rw [hs3]; omega) _).alloc (by rw [World.size_alloc, hs3]; omega) _
  clear hW3 hs3 hs2
  have HC3 := Lib.hid (Kd.C_below HR.out hB3)
  have hL3 : w.heap.size + 1 + 1 + 1 + 1 < W3.heap.size := blk_lt b4
  have hw3 : w.heap.size ≤ W3.heap.size := by omega
  have HF3 := Lib.hid (show FI w size align (-1) W3 from ⟨⟨b0, b1⟩, b2, hB3⟩)
  go_wp2_with fail
  refine wpIn_wide.1 (range_box (F := Fence.wide) (n := 9) rfl (by omega) (gf := 30) rfl trivial (fun args w => rfl) (free_stops (9 - 1) (by omega) (w.heap.size + 1 + 1 + 1) (w.heap.size + 1 + 1 + 1 + 1) (w.heap.size + 1 + 1) l0 A0 c0 limit (by omega) W3 (blk_cell b3 0) HC3.out (blk_cell b4 0) (by omega) ⟨_, blk_cell b2 0, rfl⟩) KpB.trans (KpB.put (by omega)) (fun _ => rfl) (fun X o hX => KpB.bel (by omega) ((Below.refl _ _).alloc (Nat.le_refl _) _))
    (fun pre X => (FI w size align (-1) X ∧ W3.heap.size ≤ X.heap.size) ∧ findF size align (pre.map Subtype.val) = none) (fun c pre X => ∃ r, FI w size align r X ∧ c = .exit 0 ∧ ∃ init x, pre = init ++ [x] ∧ findF size align (init.map Subtype.val) = none ∧ upI x.1.1 align + size ≤ x.1.2 ∧ r = upI x.1.1 align) ?hI ?hIx ⟨⟨HF3.out, Nat.le_refl _⟩, rfl⟩ (fun _ _ h => h.1.2) (fun y => #[.int .i64 y.1.1, .int .i64 y.1.2]) 30 ?hbody ?hdone ?hstop)
  case hI => exact fun s X Y row hs hg hr => ⟨⟨FI.own hg hr hw3 hs.1.1, Nat.le_trans hs.1.2 hg.size⟩, hs.2⟩
  case hIx =>
    rintro c s X Y row ⟨r, h1, h2⟩ hg hr
    exact ⟨r, FI.own hg hr hw3 h1, h2⟩
  case hbody =>
    refine ⟨_, fun l' y Gy X K hGy HK => by gi_wp2; rw [← hGy]; exact HK.out, ?_⟩
    rintro l' pre x Gy X hGy ⟨⟨hFI, hsz⟩, hnone⟩ hYw _
    obtain ⟨⟨q0, q1⟩, q2, hBw⟩ := hFI
    have hw2 : w.heap.size + 1 + 1 < W3.heap.size := by omega
    obtain ⟨he, hu0, hu1⟩ := up_eq (n := x.1.1) (al := align) x.2.1 (by have := x.2.2.1; have := x.2.2.2; omega) m3 m4
    have x0 := blk_cell hYw 0
    have x1 := blk_cell hYw 1
    have a0 := blk_cell q0 0
    have a1 := blk_cell q1 0
    have a2 := blk_cell q2 0
    have af := blk_frozen q2 0
    have HX2 := Lib.hid x.2
    gi_wp2_with fail
    refine ⟨trivial, (CallsIn.inRound l' (callsIn_wide.2 (place_up_int.calls x.1.1 align _ _ he))).mono ?_⟩
    rintro e u ⟨rfl, ⟨⟨nu, rfl⟩⟩⟩
    have hux : upI x.1.1 align + size ≤ 3145728 := by omega
    have hnn : findF size align ((pre ++ [x]).map Subtype.val) = findF size align [x.1] := by
      rw [List.map_append]
      exact findF_app size align _ _ hnone
    have hbn := pw_below_drewN (Below.refl X.heap.size X) nu
    have hFIn : FI w size align (-1) (X.drewN nu) := ⟨⟨q0, q1⟩, q2, pw_below_drewN hBw nu⟩
    by_cases hfit : upI x.1.1 align + size ≤ x.1.2
    · gi_wp2
      exact ⟨(keeps_bel hbn).trans (KeepsOthers.setCell _ _ _), upI x.1.1 align, ⟨⟨blk_far (w := X.drewN nu) q0 (by simp; omega) _, blk_far (w := X.drewN nu) q1 (by simp) _⟩, blk_set (w := X.drewN nu) q2 0 _, below_set (pw_below_drewN hBw nu) (by omega)⟩, rfl, pre, x, rfl, hnone, hfit, rfl⟩
    · have hr0 : findF size align ((pre ++ [x]).map Subtype.val) = none := by
        rw [hnn, findF, if_neg hfit]; rfl
      gi_wp2
      exact ⟨keeps_bel hbn, KpB.bel (by omega) hbn, ⟨hFIn, hsz⟩, hr0⟩
  case hdone =>
    rintro D xs W5 hD hS ⟨⟨hFI, hsz⟩, hnone⟩ hK
    have hxs : xs.map Subtype.val = freeL l0 limit := Runs.uniq hS (freeL_runs l0 limit)
    rw [hxs] at hnone
    unfold firstV at h
    rw [hnone] at h
    injection h with e1 e2
    subst e1 e2
    obtain ⟨⟨q0, q1⟩, q2, hBw⟩ := hFI
    have a2 := blk_cell q2 0
    go_wp2
    go_quiet (fail)
    go_wp2
    rw [Exit.noGoto_ret]
    refine leaves_marked (B := w.heap.size) [D] _ (Marked.one (by omega) hK) (fun W' hW' => ?_)
    exact ⟨.tuple #[.int .i64 (-1), .bool false], by simp [results, Try.f11, go_sem], rfl, (pw_below_drewN hBw nq).trans hW'.1⟩
  case hstop =>
    rintro D c pre W5 hD hpre ⟨r, hFI, rfl, init, x, rfl, hnone, hfit, rfl⟩ hK
    refine wpIn_wide.2 ?_
    obtain ⟨⟨q0, q1⟩, q2, hBw⟩ := hFI
    have a2 := blk_cell q2 0
    go_wp2
    go_quiet (fail)
    have hup : decide (0 ≤ upI x.1.1 align) = true := decide_eq_true (up_eq (n := x.1.1) (al := align) x.2.1 (by have := x.2.2.1; have := x.2.2.2; omega) m3 m4).2.1
    rw [hup]
    obtain ⟨ys, hys, hpr⟩ := hpre
    have hxs : ys = freeL l0 limit := Runs.uniq hys (freeL_runs l0 limit)
    have hfv : firstV l0 size align limit = (upI x.1.1 align, true) := by
      obtain ⟨rest, hrest⟩ := hpr
      unfold firstV
      rw [← hxs, ← hrest, List.map_append, List.append_assoc, findF_app size align _ _ hnone]
      simp only [List.cons_append, List.map_cons]
      rw [findF, if_pos hfit]
    rw [hfv] at h
    injection h with e1 e2
    subst e1 e2
    go_wp2
    rw [Exit.noGoto_ret]
    refine leaves_marked (B := w.heap.size) [D] _ (Marked.one (by omega) hK) (fun W' hW' => ?_)
    exact ⟨.tuple #[.int .i64 (upI x.1.1 align), .bool true], by simp [results, Try.f11, go_sem], rfl, (pw_below_drewN hBw nq).trans hW'.1⟩
end Go.Proofs.Ytnbcnkpcmjkglaa
