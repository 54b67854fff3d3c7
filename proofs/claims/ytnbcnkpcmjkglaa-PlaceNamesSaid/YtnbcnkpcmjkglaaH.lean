/- What 'Free' answers. -/
import Derived.Test.YtnbcnkpcmjkglaaG
import Derived.Test.YtnbcnkpcmjkglaaWApart
import Derived.Maps.OwnIn
namespace Go.Proofs.Ytnbcnkpcmjkglaa
open Go.RowKit Go.Shelf Go.Proofs.Ytnbcnkpcmjkglaa.Px Go.Proofs.YtnbcnkpcmjkglaaW.PrintWords Go.Proofs.YtnbcnkpcmjkglaaW.PrintLast
attribute [local go_sem] Oper.semAt_some
def ofP (s : Int × Int) : S30 := ⟨s.1, s.2⟩
theorem gate_bi {F : Fence} {n : Nat} {P : Program} {ops : Array Oper} {rest : List Oper} {o : Oper} {a : Act} {Q : Exit → Act → World → Prop} {W : World} {b : Builtin} {xs : Array Operand} {ts : Array TypeId} (_ho : o.op = .call { callee := .builtin b, args := xs, argTypes := ts }) (h : wpListIn F n P ops Q (o :: rest) a W) : wpListIn F n P ops Q (o :: rest) a W := h
section
variable {F : Fence} {n : Nat} {P : Program}
/-- append of one span, within a round. -/
theorem app_in {ops : Array Oper} {rest : List Oper} {o : Oper} {a : Act} {Q : Exit → Act → World → Prop} {w0 W : World} (base : Nat) (hgd : o.guard = none) (s x : Operand) (t e : TypeId)
    (ho : o.op = .call { callee := .builtin .append, args := #[s, x], argTypes := #[t, t] }) (ht : P.underlying t = some (.slice e)) (hinfo : (P.info? e).map (fun i => (i.zero, i.size, i.bytes)) = some (some (.agg #[.int .i64 0, .int .i64 0]), 2, 16))
    (v : Value) (xs : List S30) (p : S30) (hs : a.eval s = v) (hx : a.eval x = .slice (some ⟨W.heap.size, 0, none⟩) 1 1) (HO : Kd.R k30 e W base (fun _ => True) v xs) (HB : Below base w0 W) (hbase : base ≤ W.heap.size) (hl : (xs.length + 1) * 16 ≤ 140737488355328)
    (h : ∀ v1 w1, Kd.R k30 e w1 base (fun _ => True) v1 (xs ++ [p]) → Below base w0 w1 → W.grownBy w1 v.ownBlock → (v1.ownBlock = v.ownBlock ∨ ∃ b, v1.ownBlock = some b ∧ W.heap.size ≤ b) → wpListIn F n P ops Q rest (a.put o.dst v1) w1) :
    wpListIn F n P ops Q (o :: rest) a (W.alloc (.cells #[.int .i64 p.f0, .int .i64 p.f1] e)) := by
  obtain ⟨i0, hi, hzz⟩ := Option.map_eq_some_iff.1 hinfo
  simp only [Prod.mk.injEq] at hzz
  obtain ⟨hz0, hz1, hz2⟩ := hzz
  obtain ⟨h0, inner, HO, hr⟩ := HO
  refine wpListIn_append_own_at (w := W.alloc (.cells #[.int .i64 p.f0, .int .i64 p.f1] e)) hgd s x t ho base e i0 (.agg #[.int .i64 0, .int .i64 0]) 2 16 ht hi hz0 hz1 hz2 rfl (by omega) v xs.length inner hs (HO.alloc _) ⟨W.heap.size, 0, none⟩ 1 1 [.int .i64 p.f0, .int .i64 p.f1] hx rfl
    (by simpa using World.news_of_block (cs := #[.int .i64 p.f0, .int .i64 p.f1]) (t := e) (fr := (0, 0)) (heap_alloc_new W (.cells #[.int .i64 p.f0, .int .i64 p.f1] e))) (by simp [Value.oneCell']) (by simp only [maxLen]; omega) hl (by simp; omega) ?_
  intro v1 w1 hown hg _ hat
  have hat' : v1.ownBlock = v.ownBlock ∨ ∃ b, v1.ownBlock = some b ∧ W.heap.size ≤ b := by
    rcases hat with hat | hat
    · exact .inl hat
    · exact .inr ⟨_, hat, by simp⟩
  have hg' := World.grownBy.trans (World.grownBy_alloc W (.cells #[.int .i64 p.f0, .int .i64 p.f1] e) v.ownBlock) hg
  exact h v1 w1 (Kd.R_appended (d := k30) h0 hr (k30_mkM W base (fun _ => False) p) (fun _ hk => hk.elim) (fun _ _ => trivial) hown hg' hat') ((HB.alloc hbase _).grown hg (by simp; omega) (own_base HO)) hg' hat'
end
/-- The box of what has come, its row, what lay. -/
def AS (w : World) (fs : List S30) (W : World) : Prop :=
  ∃ v, W.heap[w.heap.size]? = some (Obj.cells #[v] 22 (0, 0)) ∧ Kd.R k30 30 W w.heap.size (fun _ => True) v fs ∧ Below w.heap.size w W
theorem R_cells {α : Type} {d : Kd α} {e base : Nat} {X Y : World} {v : Value} {xs : List α} (h : d.R e X base (fun _ => True) v xs) (hc : ∀ (k : Nat) (cs : Array Value) (t : TypeId) (fr : Nat × Nat), X.heap[k]? = some (Obj.cells cs t fr) → Y.heap[k]? = some (Obj.cells cs t fr)) : d.R e Y base (fun _ => True) v xs :=
  Kd.R_mono (Kd.R_step (Kd.R_bound h) (fun k ho _ => by obtain ⟨_, _, _, q, _, cells, hcc⟩ := ho; rw [hcc]; exact hc _ _ _ _ hcc)) (fun _ _ => trivial)
theorem R_put_far {α : Type} {d : Kd α} {e base : Nat} {X : World} {v : Value} {xs : List α} (hE : d.E = []) (h : d.R e X base (fun _ => True) v xs) {G : Nat} (hG : some G ≠ v.ownBlock) (i : Nat) (u : Value) : d.R e (X.setCell ⟨G, i, none⟩ u) base (fun _ => True) v xs :=
  Kd.R_mono (Kd.R_far (Kd.R_tight hE h) (p := ⟨G, i, none⟩) (fun k hk e => hG (by rw [← hk, e])) u) (fun _ _ => trivial)
theorem AS.own {w X Y : World} {row : Option Nat} {B : Nat} {fs : List S30} (hg : X.grownBy Y row) (hr : ∀ r, row = some r → B ≤ r ∧ ∃ o : Obj, X.heap[r]? = some o ∧ o.isCells = false) (hB : w.heap.size ≤ B) (h : AS w fs X) : AS w fs Y := by
  obtain ⟨v, h1, h2, h3⟩ := h
  exact ⟨v, cells_kept hg hr _ _ _ _ h1, R_cells h2 (cells_kept hg hr), h3.grown hg h3.size (fun k e => by obtain ⟨h', _⟩ := hr k e; omega)⟩
/-- A span more has come. -/
theorem AS.app {w X Y : World} {v v' : Value} {fs fs' : List S30} (h1 : X.heap[w.heap.size]? = some (Obj.cells #[v] 22 (0, 0))) (h2 : Kd.R k30 30 X w.heap.size (fun _ => True) v fs) (hb : Below w.heap.size w Y) (hg : X.grownBy Y v.ownBlock) (ho : Kd.R k30 30 Y w.heap.size (fun _ => True) v' fs') (hat : v'.ownBlock = v.ownBlock ∨ ∃ b, v'.ownBlock = some b ∧ X.heap.size ≤ b) :
    AS w fs' (Y.setCell ⟨w.heap.size, 0, none⟩ v') ∧ KeepsOthers X (Y.setCell ⟨w.heap.size, 0, none⟩ v') ∧ KpB w.heap.size X (Y.setCell ⟨w.heap.size, 0, none⟩ v') := by
  have hY := blk_grown h1 hg (Kd.R_ne h2 h1 (by decide))
  refine ⟨⟨v', by simpa using blk_set hY 0 v', R_put_far rfl ho (Kd.R_ne ho hY (by decide)) 0 v', hb.setCell (p := ⟨w.heap.size, 0, none⟩) (Nat.le_refl _) _⟩, (KeepsOthers.of_grownBy hg (fun j o ej hj => ?_)).trans (KeepsOthers.setCell _ _ _), by simpa using hg.size, ?_, ?_⟩
  · obtain ⟨cs, hcs⟩ := Kd.R_typed h2 j ej
    rw [hcs] at hj; cases hj; rfl
  · intro k cs t fr hk hne hv
    have hv' := hv v (blk_cell h1 0)
    have := (hg.block k (Array.getElem?_eq_some_iff.1 hk).1 (fun e => hv' e.symm)).trans hk
    exact (Below.heap_setCell Y ⟨w.heap.size, 0, none⟩ v' k hne).trans this
  · intro u hu
    have hs := blk_cell (blk_set hY 0 v') 0
    rw [hs] at hu
    simp at hu
    subst hu
    rcases hat with hat | ⟨b, hb', hle⟩
    · exact .inl ⟨v, blk_cell h1 0, hat⟩
    · refine .inr (fun k hk => ?_)
      rw [hb'] at hk
      cases hk
      obtain ⟨cs, hcs⟩ := Kd.R_typed ho b hb'
      exact ⟨hle, by simpa using (Array.getElem?_eq_some_iff.1 hcs).1⟩
set_option maxRecDepth 100000 in
set_option maxHeartbeats 8000000 in
/-- 'AppendSeq' of the free spans upon nothing. -/
theorem appendSeq_calls (Ba Bl : Nat) (A : Option Addr) (c : Nat) (l : List S30) (limit : Int) (hlen : l.length ≤ 1000000) (w : World) (hca : w.cell? ⟨Ba, 0, none⟩ = some (.slice A l.length c)) (hC : Kd.C k30 w A l.length l) (hcl : w.cell? ⟨Bl, 0, none⟩ = some (.int .i64 limit)) :
    Calls Try.prog 36 #[.slice none 0 0, .func (.func 30) #[] #[.pointer (some ⟨Ba, 0, none⟩), .pointer (some ⟨Bl, 0, none⟩)]] w fun e w' => ∃ v, e = .returned v ∧ Kd.R k30 30 w' w.heap.size (fun _ => True) v ((freeL l limit).map ofP) ∧ Below w.heap.size w w' := by
  have HC := Lib.hid hC
  have HCA := Lib.hid hca
  have HCL := Lib.hid hcl
  have hBlt : Bl < w.heap.size := World.block_lt_of_cell? w _ hcl
  clear hC hca hcl
  refine callsIn_wide.1 (callsIn_of_wp_marks (n := 9) Try.func36 rfl trivial (wpIn_wide.2 ?_) rfl)
  simp only [Try.ntmps36, List.size_toArray, List.length_cons, List.length_nil, Nat.reduceAdd, Nat.reduceSub, Array.replicate_succ, Array.replicate_zero, List.push_toArray, List.append_toArray, List.nil_append, List.cons_append]
  go_wp2_with fail
  obtain ⟨w1, hw1⟩ : ∃ w1, w1 = w.alloc (Obj.cells #[.slice none 0 0] 22) := ⟨_, rfl⟩
  rw [← hw1]
  have b1 : w1.heap[w.heap.size]? = some (Obj.cells #[.slice none 0 0] 22 (0, 0)) := by rw [hw1]; exact blk_at w _
  have hB1 : Below w.heap.size w w1 := by rw [hw1]; exact (Below.refl _ _).alloc (Nat.le_refl _) _
  have hs1 : w.heap.size + 1 = w1.heap.size := by rw [hw1]; simp
  have HA1 := Lib.hid (show AS w [] w1 from ⟨_, b1, Kd.R_nil _ _ _ _ (fun _ => True), hB1⟩)
  have hca1 := (hB1.cell (World.block_lt_of_cell? w _ HCA.out)).trans HCA.out
  have hcl1 := (hB1.cell (World.block_lt_of_cell? w _ HCL.out)).trans HCL.out
  have HC1 := Lib.hid (Kd.C_below HC.out hB1)
  clear hw1
  refine wpIn_wide.1 (range_box (F := Fence.wide) (n := 9) rfl (by omega) (gf := 30) rfl trivial (fun args w => rfl) (free_stops (9 - 1) (by omega) Ba Bl w.heap.size l A c limit (by omega) w1 hca1 HC1.out hcl1 (by omega) ⟨_, blk_cell b1 0, rfl⟩) KpB.trans (KpB.put (by omega)) (fun _ => rfl) (fun X o hX => KpB.bel (by omega) ((Below.refl _ _).alloc (Nat.le_refl _) _))
    (fun pre X => AS w (pre.map (fun x => ofP x.1)) X ∧ w1.heap.size ≤ X.heap.size) (fun _ _ _ => False) ?hI ?hIx ⟨HA1.out, Nat.le_refl _⟩ (fun _ _ h => h.2) (fun y => #[.int .i64 y.1.1, .int .i64 y.1.2]) 30 ?hbody ?hdone ?hstop)
  case hI => exact fun s X Y row hs hg hr => ⟨AS.own hg hr (by omega) hs.1, Nat.le_trans hs.2 hg.size⟩
  case hIx => exact fun _ _ _ _ _ h _ _ => h
  case hbody =>
    refine ⟨_, fun l' y Gy X K hGy HK => by gi_wp2; rw [← hGy]; exact HK.out, ?_⟩
    rintro l' pre x Gy X hGy ⟨⟨v, q0, hR, hBw⟩, hsz⟩ hYw hN
    have x0 := blk_cell hYw 0
    have x1 := blk_cell hYw 1
    have a0 := blk_cell q0 0
    have af := blk_frozen q0 0
    have HQ := Lib.hid q0
    have HR := Lib.hid hR
    have HB := Lib.hid hBw
    clear q0 hR hBw
    gi_wp2_with (first | ((with_reducible refine gate_bi (b := .append) (xs := #[.tmp 8, .tmp 10]) rfl ?_); refine app_in (w0 := w) w.heap.size rfl (.tmp 8) (.tmp 10) 22 30 rfl Try.underlying22 info30 v (pre.map (fun x => ofP x.1)) (ofP x.1) rfl rfl HR.out HB.out (by omega) (by rw [List.length_map]; omega) ?_; intro v' W8 ho hb hg hat; obtain ⟨gg, cc, hvv⟩ := Kd.R_slice ho; rw [List.length_append, List.length_map, List.length_singleton] at hvv; subst hvv; obtain ⟨hA, hK, hP⟩ := AS.app HQ.out HR.out hb hg ho hat; have HA := Lib.hid hA; have HK := Lib.hid hK; have HP := Lib.hid hP; have hy8 := blk_grown HQ.out hg (Kd.R_ne HR.out HQ.out (by decide)); have hc8 := blk_cell hy8 0; have hf8 := blk_frozen hy8 0; have hle := hg.size; clear hA hK hP ho hb hg hat hy8))
    exact ⟨HK.out, HP.out, by rw [List.map_append]; exact HA.out, by simp; omega⟩
  case hdone =>
    rintro D xs W5 hD hS ⟨hA, hsz⟩ hK
    have hxs : xs.map (fun x => ofP x.1) = (freeL l limit).map ofP := by
      rw [← Runs.uniq hS (freeL_runs l limit), List.map_map]; rfl
    rw [hxs] at hA
    obtain ⟨v, q0, hR, hBw⟩ := hA
    have a0 := blk_cell q0 0
    have HR := Lib.hid hR
    clear hR
    go_wp2
    refine leaves_marked (B := w.heap.size) [D] _ (Marked.one (by omega) hK) (fun W' hW' => ?_)
    exact ⟨v, by simp [results, Try.f36, go_sem], v, rfl, R_cells HR.out hW'.2, hBw.trans hW'.1⟩
  case hstop => exact fun D c pre W hD hpre h hK => h.elim
/-- 'Collect' of the free spans. -/
theorem collect_calls (Ba Bl : Nat) (A : Option Addr) (c : Nat) (l : List S30) (limit : Int) (hlen : l.length ≤ 1000000) (w : World) (hca : w.cell? ⟨Ba, 0, none⟩ = some (.slice A l.length c)) (hC : Kd.C k30 w A l.length l) (hcl : w.cell? ⟨Bl, 0, none⟩ = some (.int .i64 limit)) :
    Calls Try.prog 25 #[.func (.func 30) #[] #[.pointer (some ⟨Ba, 0, none⟩), .pointer (some ⟨Bl, 0, none⟩)]] w fun e w' => ∃ v, e = .returned v ∧ Kd.R k30 30 w' w.heap.size (fun _ => True) v ((freeL l limit).map ofP) ∧ Below w.heap.size w w' := by
  go_enter Try.func25, Try.ntmps25
  go_wp2_with fail
  refine (appendSeq_calls Ba Bl A c l limit hlen w hca hC hcl).mono ?_
  rintro e W ⟨v, rfl, hR, hB⟩
  have HR := Lib.hid hR
  clear hR
  go_wp2
  go_ret
  exact ⟨_, rfl, HR.out, hB⟩
def place_Free.f (_k : Nat) (l : List S30) (limit : Int) : Option (List S30) := if l.length ≤ 1000000 then some (if mayB 0 1 limit then (freeL l limit).map ofP else []) else none
theorem place_Free.mono : ∀ a0 a1 k, LeO (place_Free.f k a0 a1) (place_Free.f (k + 1) a0 a1) := fun _ _ _ => LeO.refl _
theorem place_Free.calls (k : Nat) (A0 : Option Addr) (c0 : Nat) (l0 : List S30) (limit : Int) (r : List S30) (w : World) (hr0 : Kd.C k30 w A0 l0.length l0) (_hc0 : l0.length ≤ c0) (h : place_Free.f k l0 limit = some r) :
    Calls Try.prog 12 #[.slice A0 l0.length c0, .int .i64 limit] w fun e w' => ∃ v0_ : Value, e = .returned (v0_) ∧ Kd.R k30 30 w' w.heap.size (fun _ => True) v0_ r ∧ Below w.heap.size w w' := by
  have HR := Lib.hid hr0
  unfold place_Free.f at h
  split at h
  case isFalse => cases h
  rename_i hlen
  injection h with h
  have HH := Lib.hid h
  clear hr0 h
  go_enter Try.func12, Try.ntmps12
  go_wp2_with fail
  refine (place_may.calls 0 1 limit _ _ (may_eq 0 1 limit)).mono ?_
  rintro e u ⟨rfl, ⟨⟨nd, rfl⟩⟩⟩
  cases hmay : mayB 0 1 limit
  case false =>
    go_wp2
    go_ret
    exact ⟨_, rfl, by rw [← HH.out, hmay]; exact Kd.R_nil _ _ _ _ (fun _ => True), pw_below_drewN (Below.refl _ _) _⟩
  have hres : r = (freeL l0 limit).map ofP := by rw [← HH.out, hmay, if_pos rfl]
  clear hmay
  subst hres
  clear HH
  go_wp2_with fail
  refine (free_calls A0 l0.length c0 limit _).mono ?_
  rintro e W3 ⟨rfl, hW3⟩
  have b3 : W3.heap[w.heap.size]? = some (Obj.cells #[.slice A0 l0.length c0] 22 (0, 0)) := by
    rw [hW3]
    exact blk_alloc (show ((w.drewN nd).alloc (Obj.cells #[.slice A0 l0.length c0] 22)).heap[w.heap.size]? = _ from blk_at (w.drewN nd) _) _
  have b4 : W3.heap[w.heap.size + 1]? = some (Obj.cells #[.int .i64 limit] 3 (0, 0)) := by
    rw [hW3]
    have := blk_at ((w.drewN nd).alloc (Obj.cells #[.slice A0 l0.length c0] 22)) (Obj.cells #[.int .i64 limit] 3)
    rw [World.size_alloc] at this
    exact this
  have hB3 : Below w.heap.size w W3 := by
    rw [hW3]
    exact ((pw_below_drewN (Below.refl _ _) nd).alloc (Nat.le_refl _) _).alloc (by rw [World.size_alloc]; exact Nat.le_succ _) _
  rw [show (w.drewN nd).heap.size = w.heap.size from rfl]
  clear hW3
  have HC3 := Lib.hid (Kd.C_below HR.out hB3)
  have h3 := hB3.size
  go_wp2_with fail
  refine (collect_calls w.heap.size (w.heap.size + 1) A0 c0 l0 limit hlen W3 (blk_cell b3 0) HC3.out (blk_cell b4 0)).mono ?_
  rintro e W4 ⟨v, rfl, hR, hB⟩
  have HR4 := Lib.hid hR
  clear hR
  go_wp2
  go_ret
  exact ⟨_, rfl, Kd.R_lower HR4.out h3, hB3.trans (hB.mono h3)⟩
end Go.Proofs.Ytnbcnkpcmjkglaa
