/- Rows of one's own that are written over: what is kept of them. -/
import Derived.Test.YtehbabkgaecoaaaTW
namespace Go.Proofs.Ytehbabkgaecoaaa
set_option linter.unusedVariables false
set_option linter.unusedSimpArgs false
open Go.RowKit Go.Shelf Go.Proofs.YtehbabkgaecoaaaW.PrintWords Go.Proofs.YtehbabkgaecoaaaW.PrintLast

/-- A row between the blocks s and t, whatever it holds. -/
def SlotR (W : World) (s t : Nat) (e : TypeId) (sz : Nat) (v : Value) (n : Nat) : Prop := (v = .slice none 0 0 ∧ n = 0) ∨ ∃ g cap cur, v = .slice (some ⟨g, 0, none⟩) n cap ∧ s ≤ g ∧ g < t ∧ W.heap[g]? = some (.cells cur e (0, 0)) ∧ n ≤ cap ∧ cap ≤ maxLen ∧ cur.size = cap * sz
theorem R_slotR {α : Type} {d : Kd α} {W : World} {s t e : Nat} {ok : Nat → Prop} {v : Value} {xs : List α} (h : Kd.R d e W s ok v xs) (ht : ∀ k, ok k → k < t) : SlotR W s t e d.sz v xs.length := by
  obtain ⟨h0, inner, ho, _⟩ := h
  rcases ho.2 with h1 | ⟨g, cap, cur, hv, hs, hg, h1, h2, h3, _⟩
  · exact .inl h1
  · exact .inr ⟨g, cap, cur, hv, hs, ht g (h0 g (by rw [hv]; rfl)), hg, h1, h2, h3⟩
/-- The types of rows that are written over. -/
def spe (e : Nat) : Bool := e == 3 || e == 57 || e == 59
/-- Between s and t rows of those types may hold other values; all else that lay in W lies as it lay. -/
structure SpI (W : World) (s t : Nat) (V : World) : Prop where
  bel : Below s W V
  far : ∀ i, i < W.heap.size → t ≤ i → V.heap[i]? = W.heap[i]?
  keep : ∀ (i : Nat) (cs : Array Value) (e : TypeId), s ≤ i → i < t → W.heap[i]? = some (.cells cs e (0, 0)) → (spe e = false → V.heap[i]? = some (.cells cs e (0, 0))) ∧ ∃ cs', cs'.size = cs.size ∧ V.heap[i]? = some (.cells cs' e (0, 0))
section
variable {W V U : World} {s t : Nat}
theorem SpI.refl (W : World) (s t : Nat) : SpI W s t W := ⟨Below.refl _ _, fun _ _ _ => rfl, fun i cs e _ _ h => ⟨fun _ => h, cs, rfl, h⟩⟩
theorem SpI.below (h : SpI W s t V) (ht : t ≤ W.heap.size) (hs : s ≤ t) (hb : Below V.heap.size V U) : SpI W s t U := by
  have hsz := h.bel.size
  refine ⟨h.bel.trans (hb.mono (by omega)), fun i hi h1 => (hb.block i (by omega)).trans (h.far i hi h1), fun i cs e h1 h2 h3 => ?_⟩
  obtain ⟨h4, cs', h5, h6⟩ := h.keep i cs e h1 h2 h3
  exact ⟨fun he => (hb.block i (by omega)).trans (h4 he), cs', h5, (hb.block i (by omega)).trans h6⟩
theorem SpI.setNew (h : SpI W s t V) (ht : t ≤ W.heap.size) (hs : s ≤ t) {g : Nat} (hg : W.heap.size ≤ g) (j : Nat) (u : Value) : SpI W s t (V.setCell ⟨g, j, none⟩ u) := by
  have k : ∀ i, i < W.heap.size → (V.setCell ⟨g, j, none⟩ u).heap[i]? = V.heap[i]? := fun i hi => Below.heap_setCell V ⟨g, j, none⟩ u i (by show i ≠ g; omega)
  refine ⟨h.bel.setCell (p := ⟨g, j, none⟩) (by show s ≤ g; omega) u, fun i hi h1 => (k i hi).trans (h.far i hi h1), fun i cs e h1 h2 h3 => ?_⟩
  obtain ⟨h4, cs', h5, h6⟩ := h.keep i cs e h1 h2 h3
  exact ⟨fun he => (k i (by omega)).trans (h4 he), cs', h5, (k i (by omega)).trans h6⟩
theorem SpI.put (h : SpI W s t V) (ht : t ≤ W.heap.size) {g : Nat} (h1 : s ≤ g) (_h2 : g < t) {cur cs' : Array Value} {e : TypeId} (hg : V.heap[g]? = some (.cells cur e (0, 0))) (he : spe e = true) (hU : U.heap[g]? = some (.cells cs' e (0, 0))) (hsz : cs'.size = cur.size) (hk : ∀ i, i ≠ g → U.heap[i]? = V.heap[i]?) (hos : U.os = V.os) (htp : U.tape = V.tape) (hout : U.output = V.output) (hus : U.heap.size = V.heap.size) : SpI W s t U := by
  refine ⟨h.bel.trans ⟨hos, htp, hout, by rw [hus]; exact Nat.le_refl _, fun i hi => hk i (by omega)⟩, fun i hi h3 => (hk i (by omega)).trans (h.far i hi h3), fun i cs e1 h3 h4 h5 => ?_⟩
  obtain ⟨h6, cs2, h7, h8⟩ := h.keep i cs e1 h3 h4 h5
  by_cases hig : i = g
  · subst hig
    rw [h8] at hg
    injection hg with hg
    injection hg with hg1 hg2
    subst hg1 hg2
    exact ⟨fun hf => (by rw [hf] at he; cases he), cs', by rw [hsz, h7], hU⟩
  · exact ⟨fun hf => (hk i hig).trans (h6 hf), cs2, h7, (hk i hig).trans h8⟩
theorem SpI.set (h : SpI W s t V) (ht : t ≤ W.heap.size) {g : Nat} (h1 : s ≤ g) (h2 : g < t) {cur : Array Value} {e : TypeId} (hg : V.heap[g]? = some (.cells cur e (0, 0))) (he : spe e = true) (j : Nat) (u : Value) : SpI W s t (V.setCell ⟨g, j, none⟩ u) :=
  h.put ht h1 h2 hg he (blk_set hg j u) (by simp) (fun i hi => Below.heap_setCell V ⟨g, j, none⟩ u i hi) rfl rfl rfl (World.size_setCell _ _ _)
theorem SpI.slot (h : SpI W s t V) {e : TypeId} {sz : Nat} {v : Value} {n : Nat} (hS : SlotR W s t e sz v n) : SlotR V s t e sz v n := by
  rcases hS with h1 | ⟨g, cap, cur, hv, hs, hg, hb, h1, h2, h3⟩
  · exact .inl h1
  · obtain ⟨_, cs', h5, h6⟩ := h.keep g cur e hs hg hb
    exact .inr ⟨g, cap, cs', hv, hs, hg, h6, h1, h2, by rw [h5, h3]⟩
end
section
variable {P : Program} {ops : Array Oper} {rest : List Oper} {o : Oper} {a : Act} {Q : Exit → Act → World → Prop} {W V : World} {s t : Nat}
/-- append of a number to a row that may be written over. -/
theorem app_sp (hI : SpI W s t V) (ht : t ≤ W.heap.size) (hst : s ≤ t) {v : Value} {n : Nat} (hS : SlotR V s t 3 1 v n) (hgd : o.guard = none) (x y : Operand) (ts : TypeId) (p : Int)
    (ho : o.op = .call { callee := .builtin .append, args := #[x, y], argTypes := #[ts, ts] }) (hts : P.underlying ts = some (.slice 3)) (hinfo : (P.info? 3).map (fun i => (i.zero, i.size, i.bytes)) = some (some (.int .i64 0), 1, 8))
    (hx : a.eval x = v) (hy : a.eval y = .slice (some ⟨V.heap.size, 0, none⟩) 1 1) (hl : (n + 1) * 8 ≤ 140737488355328)
    (h : ∀ (g cap : Nat) (cur : Array Value) (U : World), U.heap[g]? = some (.cells cur 3 (0, 0)) → n + 1 ≤ cap → cur.size = cap → SpI W s t U → (∀ j u, SpI W s t (U.setCell ⟨g, j, none⟩ u)) → (∀ i, W.heap.size ≤ i → i < V.heap.size → U.heap[i]? = V.heap[i]? ∧ i ≠ g) → wpList P ops Q rest (a.put o.dst (.slice (some ⟨g, 0, none⟩) (n + 1) cap)) U) :
    wpList P ops Q (o :: rest) a (V.alloc (.cells #[.int .i64 p] 3)) := by
  obtain ⟨i0, hi, hzz⟩ := Option.map_eq_some_iff.1 hinfo
  simp only [Prod.mk.injEq] at hzz
  obtain ⟨hz0, hz1, hz2⟩ := hzz
  have hb1 : Below V.heap.size V (V.alloc (.cells #[.int .i64 p] 3)) := (Below.refl _ _).alloc (Nat.le_refl _) _
  have hI1 := hI.below ht hst hb1
  have hsz := hI.bel.size
  have hnew : ∀ j u, [Value.int .i64 p][j]? = some u → (V.alloc (.cells #[.int .i64 p] 3)).cell? ((⟨V.heap.size, 0, none⟩ : Addr).add j) = some u := by
    simpa using World.news_of_block (cs := #[.int .i64 p]) (t := 3) (fr := (0, 0)) (heap_alloc_new V (.cells #[.int .i64 p] 3))
  have run : ∀ (r : Value) (U : World), (Builtin.append_ #[ts, ts] o.type #[v, .slice (some ⟨V.heap.size, 0, none⟩) 1 1]).run P (V.alloc (.cells #[.int .i64 p] 3)) = .ok r U → wpList P ops Q rest (a.put o.dst r) U → wpList P ops Q (o :: rest) a (V.alloc (.cells #[.int .i64 p] 3)) := by
    intro r U hr hw
    refine wpList_plain hgd fun _ hK => ?_
    unfold Oper.wp execOp
    simp only [ho, resolve, invoke, builtin, Sem.run_bind, Sem.run_pure, Result.andThen_ok, List.map_toArray, List.map_cons, List.map_nil, hx, hy, hr]
    exact hK _ _ hw
  have fresh : ∀ (cap : Nat) (cur : Array Value), n + 1 ≤ cap → cur.size = cap → wpList P ops Q rest (a.put o.dst (.slice (some ⟨(V.alloc (.cells #[.int .i64 p] 3)).heap.size, 0, none⟩) (n + 1) cap)) ((V.alloc (.cells #[.int .i64 p] 3)).drew.alloc (.cells cur 3)) := by
    intro cap cur hc hcs
    have hb2 : Below (V.alloc (.cells #[.int .i64 p] 3)).heap.size (V.alloc (.cells #[.int .i64 p] 3)) ((V.alloc (.cells #[.int .i64 p] 3)).drew.alloc (.cells cur 3)) := ((Below.refl (V.alloc (.cells #[.int .i64 p] 3)).heap.size (V.alloc (.cells #[.int .i64 p] 3))).drew).alloc (Nat.le_refl _) _
    have hI2 := hI1.below ht hst hb2
    have hg1 : (V.alloc (.cells #[.int .i64 p] 3)).heap.size = V.heap.size + 1 := by simp
    refine h _ cap cur _ (heap_alloc_new (V.alloc (.cells #[.int .i64 p] 3)).drew _) hc hcs hI2 (fun j u => hI2.setNew ht hst (by omega) j u) (fun i h1 h2 => ⟨(hb2.block i (by omega)).trans (hb1.block i h2), by omega⟩)
  rcases hS with ⟨rfl, rfl⟩ | ⟨g, cap, cur, rfl, hs, hg, hb, h1, h2, h3⟩
  · have hr := run_append_nil (P := P) (V.alloc (.cells #[.int .i64 p] 3)) ts o.type 3 i0 (.int .i64 0) hts hi hz0 ⟨V.heap.size, 0, none⟩ 1 1 [.int .i64 p] (by rw [hz1]; rfl) hnew (by omega) (by decide) (by rw [hz2]; decide)
    refine run _ _ hr (fresh _ _ (grownCap_ge _ _ _ _) ?_)
    have := grownCap_ge (V.alloc (.cells #[.int .i64 p] 3)) 1 0 3
    simp only [Array.size_append, List.size_toArray, size_zeroCells, List.length_cons, List.length_nil]
    show 1 + _ * 1 = _
    omega
  · have hb' : (V.alloc (.cells #[.int .i64 p] 3)).heap[g]? = some (.cells cur 3 (0, 0)) := (hb1.block g (by have := blk_lt hb; omega)).trans hb
    rw [Nat.mul_one] at h3
    by_cases hroom : n + 1 ≤ cap
    · have hr := run_append_room (P := P) (V.alloc (.cells #[.int .i64 p] 3)) ts o.type 3 i0 hts hi g n cap cur hb' ⟨V.heap.size, 0, none⟩ 1 1 [.int .i64 p] (by rw [hz1]; rfl) hnew (by simp [Value.oneCell']) hroom (by rw [hz1, h3]; simpa using hroom)
      refine run _ _ hr ?_
      have hcz : (cur.toList.take (n * i0.size) ++ [Value.int .i64 p] ++ cur.toList.drop (n * i0.size + [Value.int .i64 p].length)).toArray.size = cap := by
        rw [hz1]
        simp only [List.size_toArray, List.length_append, List.length_take, List.length_drop, Array.length_toList, List.length_cons, List.length_nil]
        omega
      generalize (cur.toList.take (n * i0.size) ++ [Value.int .i64 p] ++ cur.toList.drop (n * i0.size + [Value.int .i64 p].length)).toArray = cs' at hcz ⊢
      have hrow := setRow_heap (V.alloc (.cells #[.int .i64 p] 3)) g cur cs' 3 (0, 0) hb'
      have hI2 : SpI W s t ((V.alloc (.cells #[.int .i64 p] 3)).setRow g cs') := hI1.put ht hs hg hb' (by decide) hrow (by rw [hcz, h3]) (fun i hi => setRow_other _ g i cs' hi) rfl rfl rfl (setRow_size _ _ _)
      refine h g cap cs' _ hrow hroom hcz hI2 (fun j u => hI2.set ht hs hg hrow (by decide) j u) (fun i h4 h5 => ⟨(setRow_other _ g i cs' (by omega)).trans (hb1.block i h5), by omega⟩)
    · have holds : ∀ j u, (cur.toList.take n)[j]? = some u → (V.alloc (.cells #[.int .i64 p] 3)).cell? ((⟨g, 0, none⟩ : Addr).add j) = some u := by
        intro j u hu
        rw [List.getElem?_take] at hu
        split at hu
        · have hadd : (⟨g, 0, none⟩ : Addr).add j = ⟨g, j, none⟩ := by unfold Addr.add; split <;> simp_all
          rw [hadd, blk_cell hb' j]
          simpa using hu
        · cases hu
      have hr := run_append_grow (P := P) (V.alloc (.cells #[.int .i64 p] 3)) ts o.type 3 i0 (.int .i64 0) hts hi hz0 ⟨g, 0, none⟩ n cap (cur.toList.take n) (by rw [hz1, List.length_take, Array.length_toList]; omega) holds ⟨V.heap.size, 0, none⟩ 1 1 [.int .i64 p] (by rw [hz1]; rfl) hnew (by omega) (by omega) (by rw [hz2]; exact growslice_fits (by omega) hl)
      refine run _ _ hr (fresh _ _ (grownCap_ge _ _ _ _) ?_)
      have := grownCap_ge (V.alloc (.cells #[.int .i64 p] 3)) (n + 1) cap 3
      simp only [Array.size_append, List.size_toArray, size_zeroCells, List.length_cons, List.length_nil, List.length_take, Array.length_toList]
      show min n cur.size + 1 + _ * 1 = _
      omega
end
end Go.Proofs.Ytehbabkgaecoaaa
