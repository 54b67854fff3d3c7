/- What config's links answers: the marks (each port in one link at most), and places that clash. -/
import Derived.Test.YtehbabkgaecoaaaCkF
namespace Go.Proofs.Ytehbabkgaecoaaa
set_option linter.unusedVariables false
set_option linter.unusedSimpArgs false
open Go.RowKit Go.Shelf Go.Proofs.YtehbabkgaecoaaaW.PrintWords Go.Proofs.YtehbabkgaecoaaaW.PrintLast
attribute [local go_sem] Oper.semAt_some

theorem blk_keep {V W : World} {k : Nat} {o : Obj} (hb : Below V.heap.size V W) (h : V.heap[k]? = some o) : W.heap[k]? = some o := (hb.block k (blk_lt h)).trans h
def destOk (C : S29) (s : S59) (t : List Int) (n : Int) : Bool := decide (0 ≤ n) && (match C.f10[n.toNat]? with | some d => decide (d.f2 = 2) && decide (d.f1 = s.f1) && decide (d.f3 = s.f3) && decide (t.getD n.toNat 0 ≤ 0) | none => false)
def bump (t : List Int) (n : Int) : List Int := t.set n.toNat 1
def destStep (C : S29) (s : S59) (t : Option (List Int)) (n : Int) : Option (List Int) := t.bind fun t => if destOk C s t n then some (bump t n) else none
def headOk (C : S29) (t : List Int) (l : S61) : Option S59 := if 0 ≤ l.f0 then (match C.f10[l.f0.toNat]? with | some s => if s.f2 = 1 ∧ l.f1.length ≠ 0 ∧ (0 ≤ l.f2 ∧ l.f2 ≤ 63 - s.f3) ∧ t.getD l.f0.toNat 0 ≤ 0 then some s else none | none => none) else none
def linkStep (C : S29) (t : Option (List Int)) (l : S61) : Option (List Int) := t.bind fun t => (headOk C t l).bind fun s => l.f1.foldl (destStep C s) (some (bump t l.f0))
def tk0 (C : S29) : List Int := List.replicate C.f10.length 0
def marks (C : S29) : Option (List Int) := C.f11.foldl (linkStep C) (some (tk0 C))
/-- Where a link of a number stands: its port's node, its place, how long. -/
def lkClash (C : S29) (a b : S61) : Bool :=
  match C.f10[a.f0.toNat]?, C.f10[b.f0.toNat]? with
  | some s, some t => (match C.f8[s.f0.toNat]?, C.f8[t.f0.toNat]? with | some p, some q => decide (p.f0 = q.f0) && meetB a.f2 (a.f2 + 1 + s.f3) b.f2 (b.f2 + 1 + t.f3) | _, _ => false)
  | _, _ => false
def lkOk (C : S29) (x : PR C.f11.length) : Bool := match C.f11[x.2.1]?, C.f11[x.1.1]? with | some a, some b => !lkClash C a b | _, _ => true
def linksB (C : S29) : Bool := decide (C.f11.length ≤ 64) && (marks C).isSome && (prs C.f11.length).all (lkOk C)
def tkRow (t : List Int) : Array Value := (t.map (Value.int .i64)).toArray
def Tk (t : List Int) (n : Nat) : Prop := t.length = n ∧ ∀ x ∈ t, x = 0 ∨ x = 1
theorem tkRow_get {t : List Int} {n k : Nat} (h : Tk t n) (hk : k < n) : (tkRow t)[k]? = some (.int .i64 (t.getD k 0)) ∧ (t.getD k 0 = 0 ∨ t.getD k 0 = 1) := by
  obtain ⟨h1, h2⟩ := h
  have hk' : k < t.length := by omega
  refine ⟨by simp [tkRow, hk'], ?_⟩
  have := h2 t[k] (List.getElem_mem hk')
  simpa [List.getD, hk'] using this
theorem Tk.bump {t : List Int} {n : Nat} (h : Tk t n) (k : Int) : Tk (bump t k) n := by
  refine ⟨by simp [Go.Proofs.Ytehbabkgaecoaaa.bump, h.1], fun x hx => ?_⟩
  rcases List.mem_or_eq_of_mem_set hx with hx | hx
  · exact h.2 x hx
  · exact .inr hx
theorem tkRow_set (t : List Int) (k : Nat) : (tkRow t).setIfInBounds k (.int .i64 1) = tkRow (bump t k) := by simp [tkRow, bump, List.map_set]
theorem tk0_row (C : S29) : madeCells #[.int .i64 0] C.f10.length = tkRow (tk0 C) := by
  apply Array.ext
  · simp [size_madeCells, tkRow, tk0]
  · intro i h1 h2
    simp [madeCells, tkRow, tk0, Nat.mod_one]
theorem tk0_ok (C : S29) : Tk (tk0 C) C.f10.length := ⟨by simp [tk0], fun x hx => .inl (by simpa [tk0] using (List.mem_replicate.1 hx).2)⟩
theorem fold_none {α β : Type} (f : Option β → α → Option β) (hf : ∀ x, f none x = none) (l : List α) : l.foldl f none = none := by
  induction l with
  | nil => rfl
  | cons x l ih => rw [List.foldl_cons, hf]; exact ih
theorem fold_take_succ {α β : Type} {f : β → α → β} {l : List α} {k : Nat} {x : α} {b : β} (h : l[k]? = some x) : (l.take (k + 1)).foldl f b = f ((l.take k).foldl f b) x := by
  rw [List.take_add_one, h]; simp
theorem fold_fail {α β : Type} {f : Option β → α → Option β} (hf : ∀ x, f none x = none) {l : List α} {k : Nat} {b : Option β} (h : (l.take k).foldl f b = none) : l.foldl f b = none := by
  conv => lhs; rw [← List.take_append_drop k l, List.foldl_append, h]
  exact fold_none f hf _
/-- What is known of a link whose marks were made. -/
theorem link_valid {C : S29} (hp : portsB C = true) (hm : (marks C).isSome = true) {a : S61} (ha : a ∈ C.f11) :
    ∃ (na : Nat) (s : S59) (ps : Nat) (p : S57), a.f0 = na ∧ C.f10[na]? = some s ∧ s.f0 = ps ∧ C.f8[ps]? = some p ∧ 0 ≤ a.f2 ∧ a.f2 ≤ 63 - s.f3 ∧ 1 ≤ s.f3 ∧ s.f3 ≤ 32 ∧ s.f2 = 1 := by
  have key : ∀ (l : List S61) (t : Option (List Int)), (l.foldl (linkStep C) t).isSome = true → a ∈ l → ∃ t' : List Int, (headOk C t' a).isSome = true := by
    intro l
    induction l with
    | nil => intro t _ h; simp at h
    | cons x l ih =>
      intro t ht h
      rw [List.foldl_cons] at ht
      rcases List.mem_cons.1 h with rfl | h
      · cases hx : linkStep C t a with
        | none => rw [hx, fold_none _ (fun _ => rfl)] at ht; cases ht
        | some t1 =>
          cases t with
          | none => cases hx
          | some t0 =>
            refine ⟨t0, ?_⟩
            rw [linkStep, Option.bind_some] at hx
            cases hh : headOk C t0 a with
            | none => rw [hh] at hx; cases hx
            | some _ => rfl
      · exact ih _ ht h
  obtain ⟨t', h⟩ := key _ _ hm ha
  unfold headOk at h
  by_cases h0 : 0 ≤ a.f0
  case neg => rw [if_neg h0] at h; cases h
  rw [if_pos h0] at h
  cases hs : C.f10[a.f0.toNat]? with
  | none => rw [hs] at h; cases h
  | some s =>
    rw [hs] at h
    simp only at h
    by_cases hc : s.f2 = 1 ∧ a.f1.length ≠ 0 ∧ (0 ≤ a.f2 ∧ a.f2 ≤ 63 - s.f3) ∧ t'.getD a.f0.toNat 0 ≤ 0
    case neg => rw [if_neg hc] at h; cases h
    simp only [portsB, Bool.and_eq_true] at hp
    have hsz := (List.all_eq_true.1 hp.2) s (List.mem_of_getElem? hs)
    simp only [portOk, Bool.and_eq_true, withinB, decide_eq_true_eq] at hsz
    obtain ⟨⟨⟨⟨⟨-, hpart⟩, -⟩, hsz1⟩, -⟩, -⟩ := hsz
    exact ⟨a.f0.toNat, s, s.f0.toNat, C.f8[s.f0.toNat]'(by omega), by omega, hs, by omega, List.getElem?_eq_getElem _, hc.2.2.1.1, hc.2.2.1.2, hsz1.1, hsz1.2, hc.1⟩
def LI (A1 A8 A9 A10 A11 : Option Addr) (c1 c8 c9 c10 c11 : Nat) (C : S29) (w : World) (Bn : Nat) (pre : List (PR C.f11.length)) (W : World) : Prop :=
  (((W.heap[w.heap.size]? = some (Obj.cells #[.int .i64 C.f0, .slice A1 C.f1.length c1, .int .i64 C.f2, .int .i64 C.f3, .int .i64 C.f4, .int .i64 C.f5, .int .i64 C.f6, .int .i64 C.f7, .slice A8 C.f8.length c8, .slice A9 C.f9.length c9, .slice A10 C.f10.length c10, .slice A11 C.f11.length c11] 29) ∧ W.heap[w.heap.size + 1]? = some (Obj.cells #[.bool false] 4)) ∧ W.heap[Bn]? = some (Obj.cells #[.int .i64 C.f11.length] 3)) ∧ Below w.heap.size w W) ∧ pre.all (lkOk C) = true
def LX (C : S29) (w : World) (c : Code) (pre : List (PR C.f11.length)) (W : World) : Prop :=
  (W.heap[w.heap.size + 1]? = some (Obj.cells #[.bool false] 4) ∧ Below w.heap.size w W) ∧ (c = .ret ∧ pre.all (lkOk C) = false)
set_option maxRecDepth 100000 in
set_option maxHeartbeats 16000000 in
theorem links_calls (A1 A8 A9 A10 A11 : Option Addr) (c1 c8 c9 c10 c11 : Nat) (C : S29) (w : World) (h : CfgIn w C A1 A8 A9 A10 A11 c1 c8 c9 c10 c11) (hp : portsB C = true) : Calls Try.prog 68 #[.agg #[.int .i64 C.f0, .slice A1 C.f1.length c1, .int .i64 C.f2, .int .i64 C.f3, .int .i64 C.f4, .int .i64 C.f5, .int .i64 C.f6, .int .i64 C.f7, .slice A8 C.f8.length c8, .slice A9 C.f9.length c9, .slice A10 C.f10.length c10, .slice A11 C.f11.length c11]] w fun e w' => e = .returned (.bool (linksB C)) ∧ Below w.heap.size w w' := by
  have hb : Below w.heap.size w ((w.alloc (Obj.cells #[.int .i64 C.f0, .slice A1 C.f1.length c1, .int .i64 C.f2, .int .i64 C.f3, .int .i64 C.f4, .int .i64 C.f5, .int .i64 C.f6, .int .i64 C.f7, .slice A8 C.f8.length c8, .slice A9 C.f9.length c9, .slice A10 C.f10.length c10, .slice A11 C.f11.length c11] 29)).alloc (Obj.cells #[.bool false] 4)) := ((Below.refl _ _).alloc (Nat.le_refl _) _).alloc (by simp) _
  have HB := Lib.hid hb
  have HR := Lib.hid h
  have HN := Lib.hid (blk_alloc (blk_new w (o := (Obj.cells #[.int .i64 C.f0, .slice A1 C.f1.length c1, .int .i64 C.f2, .int .i64 C.f3, .int .i64 C.f4, .int .i64 C.f5, .int .i64 C.f6, .int .i64 C.f7, .slice A8 C.f8.length c8, .slice A9 C.f9.length c9, .slice A10 C.f10.length c10, .slice A11 C.f11.length c11] 29))) (Obj.cells #[.bool false] 4))
  have HN2 := Lib.hid (show ((w.alloc (Obj.cells #[.int .i64 C.f0, .slice A1 C.f1.length c1, .int .i64 C.f2, .int .i64 C.f3, .int .i64 C.f4, .int .i64 C.f5, .int .i64 C.f6, .int .i64 C.f7, .slice A8 C.f8.length c8, .slice A9 C.f9.length c9, .slice A10 C.f10.length c10, .slice A11 C.f11.length c11] 29)).alloc (Obj.cells #[.bool false] 4)).heap[w.heap.size + 1]? = some (Obj.cells #[.bool false] 4) by
    have := blk_new (w.alloc (Obj.cells #[.int .i64 C.f0, .slice A1 C.f1.length c1, .int .i64 C.f2, .int .i64 C.f3, .int .i64 C.f4, .int .i64 C.f5, .int .i64 C.f6, .int .i64 C.f7, .slice A8 C.f8.length c8, .slice A9 C.f9.length c9, .slice A10 C.f10.length c10, .slice A11 C.f11.length c11] 29)) (o := Obj.cells #[.bool false] 4); rwa [World.size_alloc] at this)
  obtain ⟨l1, l8, l9, l10, l11⟩ := h.len
  have hp1 : C.f10.length ≤ 64 := by simp [portsB] at hp; exact hp.1
  have HP := Lib.hid hp
  clear hb h hp
  obtain ⟨b, hb⟩ : ∃ b, b = linksB C := ⟨_, rfl⟩
  rw [← hb]
  have HBB := Lib.hid hb
  clear hb
  have hmk := fun W => run_make_row' (P := Try.prog) 23 3 (.int .i64 0) 8 Try.underlying23 info3 rfl .i64 .i64 C.f10.length (by omega) (by omega) W
  refine callsIn_wide.1 (callsIn_of_wp_marks (n := 9) Try.func68 rfl trivial (wpIn_wide.2 ?_) rfl)
  simp only [Try.ntmps68, List.size_toArray, List.length_cons, List.length_nil, Nat.reduceAdd, Nat.reduceSub, Array.replicate_succ, Array.replicate_zero, List.push_toArray, List.append_toArray, List.nil_append, List.cons_append]
  by_cases h1 : C.f11.length ≤ 64
  case neg =>
    have hn : b = false := by rw [HBB.out]; simp [linksB, h1]
    subst hn
    go_wp2
    go_step3
    go_wp2
    rw [Exit.noGoto_ret]
    refine leaves_marked (B := w.heap.size) [] _ (Marked.nil _ _) (fun W' hW' => ?_)
    have hk := hW'.2 _ _ _ _ HN2.out
    have hc : W'.cell? ⟨w.heap.size + 1, 0, none⟩ = some (.bool false) := blk_cell hk 0
    exact ⟨.bool false, by simp [results, Try.f68, go_sem, hc], rfl, HB.out.trans hW'.1⟩
  go_wp2
  go_step3
  go_wp2
  go_step3
  go_wp2
  have hno := Lib.hid (show marks C = none → b = false from fun h => by rw [HBB.out, linksB, h]; simp)
  have HT0 : Hid ((((w.alloc (Obj.cells #[.int .i64 C.f0, .slice A1 C.f1.length c1, .int .i64 C.f2, .int .i64 C.f3, .int .i64 C.f4, .int .i64 C.f5, .int .i64 C.f6, .int .i64 C.f7, .slice A8 C.f8.length c8, .slice A9 C.f9.length c9, .slice A10 C.f10.length c10, .slice A11 C.f11.length c11] 29)).alloc (Obj.cells #[.bool false] 4)).alloc (Obj.cells (tkRow (tk0 C)) 3)).heap[w.heap.size + 1 + 1]? = some (Obj.cells (tkRow (tk0 C)) 3)) := Lib.hid (by
    have := blk_new ((w.alloc (Obj.cells #[.int .i64 C.f0, .slice A1 C.f1.length c1, .int .i64 C.f2, .int .i64 C.f3, .int .i64 C.f4, .int .i64 C.f5, .int .i64 C.f6, .int .i64 C.f7, .slice A8 C.f8.length c8, .slice A9 C.f9.length c9, .slice A10 C.f10.length c10, .slice A11 C.f11.length c11] 29)).alloc (Obj.cells #[.bool false] 4)) (o := Obj.cells (tkRow (tk0 C)) 3); rwa [World.size_alloc, World.size_alloc] at this)
  have HB0 := Lib.hid (HB.out.alloc HB.out.size (Obj.cells (tkRow (tk0 C)) 3))
  have HN0 := Lib.hid (blk_alloc HN.out (Obj.cells (tkRow (tk0 C)) 3))
  have HM0 := Lib.hid (blk_alloc HN2.out (Obj.cells (tkRow (tk0 C)) 3))
  rw [tk0_row]
  clear HB HN HN2
  go_loopw [29] (fun i wr => ∃ (k : Nat) (t : List Int), k ≤ C.f11.length ∧ i = .int .i64 k ∧ Hid ((C.f11.take k).foldl (linkStep C) (some (tk0 C)) = some t) ∧ Hid (Tk t C.f10.length) ∧ Hid (Below w.heap.size w wr) ∧ Hid (wr.heap[w.heap.size]? = some (Obj.cells #[.int .i64 C.f0, .slice A1 C.f1.length c1, .int .i64 C.f2, .int .i64 C.f3, .int .i64 C.f4, .int .i64 C.f5, .int .i64 C.f6, .int .i64 C.f7, .slice A8 C.f8.length c8, .slice A9 C.f9.length c9, .slice A10 C.f10.length c10, .slice A11 C.f11.length c11] 29)) ∧ Hid (wr.heap[w.heap.size + 1]? = some (Obj.cells #[.bool false] 4)) ∧ Hid (wr.heap[w.heap.size + 1 + 1]? = some (Obj.cells (tkRow t) 3))) (fun i _ => C.f11.length - (intOf i).toNat)
  case atStart => exact ⟨0, tk0 C, by omega, rfl, Lib.hid rfl, Lib.hid (tk0_ok C), HB0, HN0, HM0, HT0⟩
  case round =>
    clear HB0 HN0 HM0 HT0 hmk
    obtain ⟨k, t, hk, rfl, HF, HK, HB, HC, HM, HT⟩ := hrel
    have hlt0 := blk_lt HC.out
    have hlt1 := blk_lt HM.out
    have hlt2 := blk_lt HT.out
    by_cases hlt : k < C.f11.length
    · obtain ⟨ad, x, Ax, cx, e11, x0, x1, x2, hcx, HXR, HV⟩ := at_K HR.out.2.2.2.2.2 k hlt
      subst e11
      have hxl := HXR.out.2.1
      replace x0 := (HB.out.cell (World.block_lt_of_cell? w _ x0)).trans x0
      replace x1 := (HB.out.cell (World.block_lt_of_cell? w _ x1)).trans x1
      replace x2 := (HB.out.cell (World.block_lt_of_cell? w _ x2)).trans x2
      have hnoF := Lib.hid (show linkStep C (some t) x = none → b = false from fun h => hno.out (fold_fail (k := k + 1) (fun _ => rfl) (by rw [fold_take_succ HV.out, HF.out]; exact h)))
      obtain ⟨g0, g1, g2, g3, g4, g5, g6, g7, g8, g9, g10, g11⟩ := cfg_cells HC.out
      by_cases hs : 0 ≤ x.f0 ∧ x.f0 < C.f10.length
      case neg =>
        have hres := hnoF.out (by
          simp only [linkStep, Option.bind_some, headOk]
          split
          · rw [List.getElem?_eq_none (by omega)]; rfl
          · rfl)
        subst hres
        go_wp2_with fail
        refine (port_none _ _ _ _ _ _ _ _ _ _ C _ (HR.out.below (HB.out.alloc HB.out.size _)) x.f0 hs).mono ?_
        rintro e W1 ⟨rfl, hb1⟩
        have HM1 := Lib.hid (blk_keep hb1 (blk_alloc HM.out (Obj.cells #[.int .i64 x.f0, .slice Ax x.f1.length cx, .int .i64 x.f2] 61)))
        have HB1 := Lib.hid ((HB.out.alloc HB.out.size (Obj.cells #[.int .i64 x.f0, .slice Ax x.f1.length cx, .int .i64 x.f2] 61)).trans (hb1.mono (by simp; omega)))
        have hlt1' := blk_lt HM1.out
        have hcz := blk_cell HM1.out 0
        have hfz := blk_frozen HM1.out 0
        clear hb1 g0 g1 g2 g3 g4 g5 g6 g7 g8 g9 g10 g11
        go_wp2
        rw [Exit.noGoto_ret]
        refine leaves_marked (B := w.heap.size) [] _ (Marked.nil _ _) (fun W' hW' => ?_)
        have hk := hW'.2 _ _ _ _ (blk_alloc (blk_set HM1.out 0 (.bool false)) _)
        have hc : W'.cell? ⟨w.heap.size + 1, 0, none⟩ = some (.bool false) := blk_cell hk 0
        exact ⟨.bool false, by simp [results, Try.f68, go_sem, hc], rfl, ((below_set HB1.out (by omega)).alloc (below_set HB1.out (by omega)).size _).trans hW'.1⟩
      obtain ⟨hs0, hs1⟩ := hs
      obtain ⟨n, hn⟩ := Int.eq_ofNat_of_zero_le hs0
      have hnl : n < C.f10.length := by omega
      obtain ⟨s, hsn⟩ : ∃ s, C.f10[n]? = some s := ⟨_, List.getElem?_eq_getElem hnl⟩
      have hsok := HP.out
      simp only [portsB, Bool.and_eq_true] at hsok
      have hsz := (List.all_eq_true.1 hsok.2) s (List.mem_of_getElem? hsn)
      simp only [portOk, Bool.and_eq_true, withinB, decide_eq_true_eq] at hsz
      obtain ⟨⟨⟨⟨⟨-, hpart⟩, -⟩, hsz1⟩, -⟩, -⟩ := hsz
      clear hsok
      have HSN := Lib.hid hsn
      have HX0 := Lib.hid hn
      rw [hn] at x0
      clear hsn hs0 hs1 hn
      have hhead := Lib.hid (show headOk C t x = if s.f2 = 1 ∧ x.f1.length ≠ 0 ∧ (0 ≤ x.f2 ∧ x.f2 ≤ 63 - s.f3) ∧ t.getD n 0 ≤ 0 then some s else none by
        rw [headOk, HX0.out, if_pos (by omega), Int.toNat_natCast, HSN.out])
      go_wp2_with fail
      refine (port_some _ _ _ _ _ _ _ _ _ _ C _ (HR.out.below (HB.out.alloc HB.out.size _)) n s HSN.out).mono ?_
      rintro e W1 ⟨rfl, hb1⟩
      have HM1 := Lib.hid (blk_keep hb1 (blk_alloc HM.out (Obj.cells #[.int .i64 n, .slice Ax x.f1.length cx, .int .i64 x.f2] 61)))
      have HC1 := Lib.hid (blk_keep hb1 (blk_alloc HC.out (Obj.cells #[.int .i64 n, .slice Ax x.f1.length cx, .int .i64 x.f2] 61)))
      have HT1 := Lib.hid (blk_keep hb1 (blk_alloc HT.out (Obj.cells #[.int .i64 n, .slice Ax x.f1.length cx, .int .i64 x.f2] 61)))
      have HX1 := Lib.hid (blk_keep hb1 (blk_new wr (Obj.cells #[.int .i64 n, .slice Ax x.f1.length cx, .int .i64 x.f2] 61)))
      have HB1 := Lib.hid ((HB.out.alloc HB.out.size (Obj.cells #[.int .i64 n, .slice Ax x.f1.length cx, .int .i64 x.f2] 61)).trans (hb1.mono (by simp; omega)))
      have hlm := blk_lt HM1.out
      have hlc := blk_lt HC1.out
      have hlT := blk_lt HT1.out
      have hlx := blk_lt HX1.out
      have hcz := blk_cell HM1.out 0
      have hfz := blk_frozen HM1.out 0
      have hx0 := blk_cell HX1.out 0
      have hx1 := blk_cell HX1.out 1
      have hx2 := blk_cell HX1.out 2
      obtain ⟨htn, ht01⟩ := tkRow_get HK.out hnl
      have htc := blk_cell HT1.out n
      rw [htn] at htc
      have htf := blk_frozen HT1.out n
      obtain ⟨v, hv⟩ : ∃ v, v = t.getD n 0 := ⟨_, rfl⟩
      rw [← hv] at htc ht01 hhead
      have HVv := Lib.hid hv
      clear hb1 g0 g1 g2 g3 g4 g5 g6 g7 g8 g9 g10 g11 hv htn
      have HBS := Lib.hid (((below_set (g := w.heap.size + 1) (j := 0) (v := .bool false) HB1.out (by omega)).alloc (below_set HB1.out (by omega)).size (Obj.cells #[.int .i64 s.f0, .int .i64 s.f1, .int .i64 s.f2, .int .i64 s.f3, .int .i64 s.f4, .int .i64 s.f5] 59)))
      have HMS := Lib.hid (blk_alloc (blk_set HM1.out 0 (.bool false)) (Obj.cells #[.int .i64 s.f0, .int .i64 s.f1, .int .i64 s.f2, .int .i64 s.f3, .int .i64 s.f4, .int .i64 s.f5] 59))
      by_cases d1 : s.f2 = 1
      case neg =>
        have hres := hnoF.out (by rw [linkStep, Option.bind_some, hhead.out, if_neg (by simp [d1])]; rfl)
        subst hres
        have e1 : (s.f2 != 1) = true := by simpa using d1
        clear d1
        go_wp2
        rw [Exit.noGoto_ret]
        refine leaves_marked (B := w.heap.size) [] _ (Marked.nil _ _) (fun W' hW' => ?_)
        have hk := hW'.2 _ _ _ _ HMS.out
        have hc : W'.cell? ⟨w.heap.size + 1, 0, none⟩ = some (.bool false) := blk_cell hk 0
        exact ⟨.bool false, by simp [results, Try.f68, go_sem, hc], rfl, HBS.out.trans hW'.1⟩
      have e1 : (s.f2 != 1) = false := by simpa using d1
      have D1 := Lib.hid d1
      clear d1
      by_cases d2 : x.f1.length = 0
      case pos =>
        have hres := hnoF.out (by rw [linkStep, Option.bind_some, hhead.out, if_neg (by simp [d2])]; rfl)
        subst hres
        have e2 : ((x.f1.length : Int) == 0) = true := by simpa using d2
        clear d2
        go_wp2
        rw [Exit.noGoto_ret]
        refine leaves_marked (B := w.heap.size) [] _ (Marked.nil _ _) (fun W' hW' => ?_)
        have hk := hW'.2 _ _ _ _ HMS.out
        have hc : W'.cell? ⟨w.heap.size + 1, 0, none⟩ = some (.bool false) := blk_cell hk 0
        exact ⟨.bool false, by simp [results, Try.f68, go_sem, hc], rfl, HBS.out.trans hW'.1⟩
      have e2 : ((x.f1.length : Int) == 0) = false := by simpa using d2
      have D2 := Lib.hid d2
      clear d2
      have h63 : wrap64 (63 - s.f3) = 63 - s.f3 := by unfold wrap64; omega
      have H63 := Lib.hid h63
      clear h63
      by_cases d3 : 0 ≤ x.f2 ∧ x.f2 ≤ 63 - s.f3
      case neg =>
        have hres := hnoF.out (by rw [linkStep, Option.bind_some, hhead.out, if_neg (fun h => d3 h.2.2.1)]; rfl)
        subst hres
        go_wp2_with fail
        refine (within_false _ d3).mono ?_
        rintro e w2 ⟨rfl, rfl⟩
        go_wp2
        rw [Exit.noGoto_ret]
        refine leaves_marked (B := w.heap.size) [] _ (Marked.nil _ _) (fun W' hW' => ?_)
        have hk := hW'.2 _ _ _ _ HMS.out
        have hc : W'.cell? ⟨w.heap.size + 1, 0, none⟩ = some (.bool false) := blk_cell hk 0
        exact ⟨.bool false, by simp [results, Try.f68, go_sem, hc], rfl, HBS.out.trans hW'.1⟩
      by_cases d4 : v ≤ 0
      case neg =>
        have hres := hnoF.out (by rw [linkStep, Option.bind_some, hhead.out, if_neg (fun h => d4 h.2.2.2)]; rfl)
        subst hres
        go_wp2_with fail
        refine (within_true _ d3).mono ?_
        rintro e w2 ⟨rfl, rfl⟩
        go_wp2
        rw [Exit.noGoto_ret]
        refine leaves_marked (B := w.heap.size) [] _ (Marked.nil _ _) (fun W' hW' => ?_)
        have hk := hW'.2 _ _ _ _ HMS.out
        have hc : W'.cell? ⟨w.heap.size + 1, 0, none⟩ = some (.bool false) := blk_cell hk 0
        exact ⟨.bool false, by simp [results, Try.f68, go_sem, hc], rfl, HBS.out.trans hW'.1⟩
      have hstep := Lib.hid (show linkStep C (some t) x = x.f1.foldl (destStep C s) (some (bump t n)) by rw [linkStep, Option.bind_some, hhead.out, if_pos ⟨D1.out, D2.out, d3, d4⟩, Option.bind_some, HX0.out])
      have hv0 : v = 0 := by omega
      subst hv0
      go_wp2_with fail
      refine (within_true _ d3).mono ?_
      rintro e w2 ⟨rfl, rfl⟩
      clear d4 ht01
      have HCi := Lib.hid (blk_alloc (blk_far HC1.out (p := ⟨w.heap.size + 1 + 1, n, none⟩) (by first | (simp; done) | (simp; omega)) (.int .i64 1)) (Obj.cells #[.int .i64 s.f0, .int .i64 s.f1, .int .i64 s.f2, .int .i64 s.f3, .int .i64 s.f4, .int .i64 s.f5] 59))
      have HMi := Lib.hid (blk_alloc (blk_far HM1.out (p := ⟨w.heap.size + 1 + 1, n, none⟩) (by first | (simp; done) | (simp; omega)) (.int .i64 1)) (Obj.cells #[.int .i64 s.f0, .int .i64 s.f1, .int .i64 s.f2, .int .i64 s.f3, .int .i64 s.f4, .int .i64 s.f5] 59))
      have hti := blk_alloc (blk_set HT1.out n (.int .i64 1)) (Obj.cells #[.int .i64 s.f0, .int .i64 s.f1, .int .i64 s.f2, .int .i64 s.f3, .int .i64 s.f4, .int .i64 s.f5] 59)
      rw [tkRow_set] at hti
      have HTi := Lib.hid hti
      have HXi := Lib.hid (blk_alloc (blk_far HX1.out (p := ⟨w.heap.size + 1 + 1, n, none⟩) (by first | (simp; done) | (simp; omega)) (.int .i64 1)) (Obj.cells #[.int .i64 s.f0, .int .i64 s.f1, .int .i64 s.f2, .int .i64 s.f3, .int .i64 s.f4, .int .i64 s.f5] 59))
      have hsi := blk_new (W1.setCell ⟨w.heap.size + 1 + 1, n, none⟩ (.int .i64 1)) (Obj.cells #[.int .i64 s.f0, .int .i64 s.f1, .int .i64 s.f2, .int .i64 s.f3, .int .i64 s.f4, .int .i64 s.f5] 59)
      rw [World.size_setCell] at hsi
      have HSi := Lib.hid hsi
      have HBi := Lib.hid ((below_set (g := w.heap.size + 1 + 1) (j := n) (v := .int .i64 1) HB1.out (by omega)).alloc (below_set (g := w.heap.size + 1 + 1) (j := n) (v := .int .i64 1) HB1.out (by omega)).size (Obj.cells #[.int .i64 s.f0, .int .i64 s.f1, .int .i64 s.f2, .int .i64 s.f3, .int .i64 s.f4, .int .i64 s.f5] 59))
      have HKi := Lib.hid (HK.out.bump n)
      clear hti hsi HBS HMS
      go_wp2
      clear htc htf hx0 hx1 hx2 hcz hfz x0 x1 x2
      go_loopw [8, 9, 10, 11, 80] (fun _ _ _ _ i wi => ∃ (j : Nat) (t' : List Int), j ≤ x.f1.length ∧ i = .int .i64 j ∧ Hid ((x.f1.take j).foldl (destStep C s) (some (bump t n)) = some t') ∧ Hid (Tk t' C.f10.length) ∧ Hid (Below w.heap.size w wi) ∧ Hid (wi.heap[w.heap.size]? = some (Obj.cells #[.int .i64 C.f0, .slice A1 C.f1.length c1, .int .i64 C.f2, .int .i64 C.f3, .int .i64 C.f4, .int .i64 C.f5, .int .i64 C.f6, .int .i64 C.f7, .slice A8 C.f8.length c8, .slice A9 C.f9.length c9, .slice A10 C.f10.length c10, .slice (some ad) C.f11.length c11] 29)) ∧ Hid (wi.heap[w.heap.size + 1]? = some (Obj.cells #[.bool false] 4)) ∧ Hid (wi.heap[w.heap.size + 1 + 1]? = some (Obj.cells (tkRow t') 3)) ∧ Hid (wi.heap[wr.heap.size]? = some (Obj.cells #[.int .i64 n, .slice Ax x.f1.length cx, .int .i64 x.f2] 61)) ∧ Hid (wi.heap[W1.heap.size]? = some (Obj.cells #[.int .i64 s.f0, .int .i64 s.f1, .int .i64 s.f2, .int .i64 s.f3, .int .i64 s.f4, .int .i64 s.f5] 59))) (fun _ _ _ _ i _ => x.f1.length - (intOf i).toNat)
      case atStart => exact ⟨0, bump t n, by omega, rfl, Lib.hid rfl, HKi, HBi, HCi, HMi, HTi, HXi, HSi⟩
      case round =>
        clear HCi HMi HTi HXi HSi HBi HKi
        obtain ⟨j, t', hj, rfl, HFj, HKj, HBj, HCj, HMj, HTj, HXj, HSj⟩ := hrel
        have hl0 := blk_lt HCj.out
        have hl1 := blk_lt HMj.out
        have hl2 := blk_lt HTj.out
        have hl3 := blk_lt HXj.out
        have hl4 := blk_lt HSj.out
        by_cases hlj : j < x.f1.length
        · obtain ⟨ar, m, er, hcm, HMm⟩ := at_I (Kd.C_below HXR.out HBj.out) j hlj
          subst er
          have hnoD := Lib.hid (show destStep C s (some t') m = none → b = false from fun h => hnoF.out (by rw [hstep.out]; exact fold_fail (k := j + 1) (fun _ => rfl) (by rw [fold_take_succ HMm.out, HFj.out]; exact h)))
          have hsuc := Lib.hid (show ∀ r, destStep C s (some t') m = r → (x.f1.take (j + 1)).foldl (destStep C s) (some (bump t n)) = r from fun r h => by rw [fold_take_succ HMm.out, HFj.out]; exact h)
          obtain ⟨g0, g1, g2, g3, g4, g5, g6, g7, g8, g9, g10, g11⟩ := cfg_cells HCj.out
          have hx1 := blk_cell HXj.out 1
          have hs1' := blk_cell HSj.out 1
          have hs3' := blk_cell HSj.out 3
          by_cases hs : 0 ≤ m ∧ m < C.f10.length
          case neg =>
            have hres := hnoD.out (by
              simp only [destStep, Option.bind_some]
              rw [if_neg]
              simp only [destOk]
              by_cases h : 0 ≤ m
              · rw [List.getElem?_eq_none (by omega)]; simp
              · simp [h])
            subst hres
            go_wp2_with fail
            refine (port_none _ _ _ _ _ _ _ _ _ _ C _ (HR.out.below HBj.out) m hs).mono ?_
            rintro e W2 ⟨rfl, hb2⟩
            have HM2 := Lib.hid (blk_keep hb2 HMj.out)
            have HB2 := Lib.hid (HBj.out.trans (hb2.mono (by omega)))
            have hlz := blk_lt HM2.out
            have hcz := blk_cell HM2.out 0
            have hfz := blk_frozen HM2.out 0
            clear hb2 g0 g1 g2 g3 g4 g5 g6 g7 g8 g9 g10 g11 hx1 hs1' hs3'
            go_wp2
            rw [Exit.noGoto_ret]
            refine leaves_marked (B := w.heap.size) [] _ (Marked.nil _ _) (fun W' hW' => ?_)
            have hk := hW'.2 _ _ _ _ (blk_alloc (blk_set HM2.out 0 (.bool false)) _)
            have hc : W'.cell? ⟨w.heap.size + 1, 0, none⟩ = some (.bool false) := blk_cell hk 0
            exact ⟨.bool false, by simp [results, Try.f68, go_sem, hc], rfl, ((below_set HB2.out (by omega)).alloc (below_set HB2.out (by omega)).size _).trans hW'.1⟩
          obtain ⟨hs0, hs1⟩ := hs
          obtain ⟨n2, hn2⟩ := Int.eq_ofNat_of_zero_le hs0
          subst hn2
          have hnl2 : n2 < C.f10.length := by omega
          obtain ⟨d, hdn⟩ : ∃ d, C.f10[n2]? = some d := ⟨_, List.getElem?_eq_getElem hnl2⟩
          have HDN := Lib.hid hdn
          clear hdn hs0 hs1
          have hdok := Lib.hid (show destOk C s t' n2 = (decide (d.f2 = 2) && decide (d.f1 = s.f1) && decide (d.f3 = s.f3) && decide (t'.getD n2 0 ≤ 0)) by
            rw [destOk, Int.toNat_natCast, HDN.out]; simp)
          go_wp2_with fail
          refine (port_some _ _ _ _ _ _ _ _ _ _ C _ (HR.out.below HBj.out) n2 d HDN.out).mono ?_
          rintro e W2 ⟨rfl, hb2⟩
          have HM2 := Lib.hid (blk_keep hb2 HMj.out)
          have HC2 := Lib.hid (blk_keep hb2 HCj.out)
          have HT2 := Lib.hid (blk_keep hb2 HTj.out)
          have HX2 := Lib.hid (blk_keep hb2 HXj.out)
          have HS2 := Lib.hid (blk_keep hb2 HSj.out)
          have HB2 := Lib.hid (HBj.out.trans (hb2.mono (by omega)))
          have hlz := blk_lt HM2.out
          have hlz0 := blk_lt HC2.out
          have hlz2 := blk_lt HT2.out
          have hlz3 := blk_lt HX2.out
          have hlz4 := blk_lt HS2.out
          have hcz := blk_cell HM2.out 0
          have hfz := blk_frozen HM2.out 0
          have hz1 := blk_cell HS2.out 1
          have hz3 := blk_cell HS2.out 3
          have hzx := blk_cell HX2.out 1
          obtain ⟨htn, ht01⟩ := tkRow_get HKj.out hnl2
          have htc := blk_cell HT2.out n2
          rw [htn] at htc
          have htf := blk_frozen HT2.out n2
          obtain ⟨v, hv⟩ : ∃ v, v = t'.getD n2 0 := ⟨_, rfl⟩
          rw [← hv] at htc ht01 hdok
          clear hb2 g0 g1 g2 g3 g4 g5 g6 g7 g8 g9 g10 g11 hv htn hx1 hs1' hs3' hcm
          have HBS := Lib.hid (((below_set (g := w.heap.size + 1) (j := 0) (v := .bool false) HB2.out (by omega)).alloc (below_set HB2.out (by omega)).size (Obj.cells #[.int .i64 d.f0, .int .i64 d.f1, .int .i64 d.f2, .int .i64 d.f3, .int .i64 d.f4, .int .i64 d.f5] 59)))
          have HMS := Lib.hid (blk_alloc (blk_set HM2.out 0 (.bool false)) (Obj.cells #[.int .i64 d.f0, .int .i64 d.f1, .int .i64 d.f2, .int .i64 d.f3, .int .i64 d.f4, .int .i64 d.f5] 59))
          by_cases d1 : d.f2 = 2
          case neg =>
            have hres := hnoD.out (by simp only [destStep, Option.bind_some]; rw [if_neg (by rw [hdok.out]; simp [d1])])
            subst hres
            have e1' : (d.f2 != 2) = true := by simpa using d1
            clear d1
            go_wp2
            rw [Exit.noGoto_ret]
            refine leaves_marked (B := w.heap.size) [] _ (Marked.nil _ _) (fun W' hW' => ?_)
            have hk := hW'.2 _ _ _ _ HMS.out
            have hc : W'.cell? ⟨w.heap.size + 1, 0, none⟩ = some (.bool false) := blk_cell hk 0
            exact ⟨.bool false, by simp [results, Try.f68, go_sem, hc], rfl, HBS.out.trans hW'.1⟩
          have e1' : (d.f2 != 2) = false := by simpa using d1
          have E1 := Lib.hid d1
          clear d1
          by_cases d2 : d.f1 = s.f1
          case neg =>
            have hres := hnoD.out (by simp only [destStep, Option.bind_some]; rw [if_neg (by rw [hdok.out]; simp [d2])])
            subst hres
            have e2' : (d.f1 != s.f1) = true := by simpa using d2
            clear d2
            go_wp2
            rw [Exit.noGoto_ret]
            refine leaves_marked (B := w.heap.size) [] _ (Marked.nil _ _) (fun W' hW' => ?_)
            have hk := hW'.2 _ _ _ _ HMS.out
            have hc : W'.cell? ⟨w.heap.size + 1, 0, none⟩ = some (.bool false) := blk_cell hk 0
            exact ⟨.bool false, by simp [results, Try.f68, go_sem, hc], rfl, HBS.out.trans hW'.1⟩
          have e2' : (d.f1 != s.f1) = false := by simpa using d2
          have E2 := Lib.hid d2
          clear d2
          by_cases d3' : d.f3 = s.f3
          case neg =>
            have hres := hnoD.out (by simp only [destStep, Option.bind_some]; rw [if_neg (by rw [hdok.out]; simp [d3'])])
            subst hres
            have e3' : (d.f3 != s.f3) = true := by simpa using d3'
            clear d3'
            go_wp2
            rw [Exit.noGoto_ret]
            refine leaves_marked (B := w.heap.size) [] _ (Marked.nil _ _) (fun W' hW' => ?_)
            have hk := hW'.2 _ _ _ _ HMS.out
            have hc : W'.cell? ⟨w.heap.size + 1, 0, none⟩ = some (.bool false) := blk_cell hk 0
            exact ⟨.bool false, by simp [results, Try.f68, go_sem, hc], rfl, HBS.out.trans hW'.1⟩
          have e3' : (d.f3 != s.f3) = false := by simpa using d3'
          have E3 := Lib.hid d3'
          clear d3'
          by_cases d4 : v ≤ 0
          case neg =>
            have hres := hnoD.out (by simp only [destStep, Option.bind_some]; rw [if_neg (by rw [hdok.out]; simp; omega)])
            subst hres
            go_wp2
            rw [Exit.noGoto_ret]
            refine leaves_marked (B := w.heap.size) [] _ (Marked.nil _ _) (fun W' hW' => ?_)
            have hk := hW'.2 _ _ _ _ HMS.out
            have hc : W'.cell? ⟨w.heap.size + 1, 0, none⟩ = some (.bool false) := blk_cell hk 0
            exact ⟨.bool false, by simp [results, Try.f68, go_sem, hc], rfl, HBS.out.trans hW'.1⟩
          have hst := Lib.hid (show destStep C s (some t') n2 = some (bump t' n2) by simp only [destStep, Option.bind_some]; rw [if_pos (by rw [hdok.out, E1.out, E2.out, E3.out]; simp [d4])])
          have hv0 : v = 0 := by omega
          subst hv0
          clear d4 ht01 hdok HBS HMS
          have HCq := Lib.hid (blk_alloc (blk_far HC2.out (p := ⟨w.heap.size + 1 + 1, n2, none⟩) (by first | (simp; done) | (simp; omega)) (.int .i64 1)) (Obj.cells #[.int .i64 d.f0, .int .i64 d.f1, .int .i64 d.f2, .int .i64 d.f3, .int .i64 d.f4, .int .i64 d.f5] 59))
          have HMq := Lib.hid (blk_alloc (blk_far HM2.out (p := ⟨w.heap.size + 1 + 1, n2, none⟩) (by first | (simp; done) | (simp; omega)) (.int .i64 1)) (Obj.cells #[.int .i64 d.f0, .int .i64 d.f1, .int .i64 d.f2, .int .i64 d.f3, .int .i64 d.f4, .int .i64 d.f5] 59))
          have hti := blk_alloc (blk_set HT2.out n2 (.int .i64 1)) (Obj.cells #[.int .i64 d.f0, .int .i64 d.f1, .int .i64 d.f2, .int .i64 d.f3, .int .i64 d.f4, .int .i64 d.f5] 59)
          rw [tkRow_set] at hti
          have HTq := Lib.hid hti
          have HXq := Lib.hid (blk_alloc (blk_far HX2.out (p := ⟨w.heap.size + 1 + 1, n2, none⟩) (by first | (simp; done) | (simp; omega)) (.int .i64 1)) (Obj.cells #[.int .i64 d.f0, .int .i64 d.f1, .int .i64 d.f2, .int .i64 d.f3, .int .i64 d.f4, .int .i64 d.f5] 59))
          have HSq := Lib.hid (blk_alloc (blk_far HS2.out (p := ⟨w.heap.size + 1 + 1, n2, none⟩) (by first | (simp; done) | (simp; omega)) (.int .i64 1)) (Obj.cells #[.int .i64 d.f0, .int .i64 d.f1, .int .i64 d.f2, .int .i64 d.f3, .int .i64 d.f4, .int .i64 d.f5] 59))
          have HBq := Lib.hid ((below_set (g := w.heap.size + 1 + 1) (j := n2) (v := .int .i64 1) HB2.out (by omega)).alloc (below_set (g := w.heap.size + 1 + 1) (j := n2) (v := .int .i64 1) HB2.out (by omega)).size (Obj.cells #[.int .i64 d.f0, .int .i64 d.f1, .int .i64 d.f2, .int .i64 d.f3, .int .i64 d.f4, .int .i64 d.f5] 59))
          have HKq := Lib.hid (HKj.out.bump n2)
          clear hti
          have hnew := Lib.hid (hsuc.out _ hst.out)
          have ewr : wrap64 ((x.f1.length : Int) - 1) = (x.f1.length : Int) - 1 := by unfold wrap64; omega
          have EWR := Lib.hid ewr
          clear ewr
          by_cases hlast : (j : Int) = (x.f1.length : Int) - 1
          · have e9 : ((j : Int) == (x.f1.length : Int) - 1) = true := by simpa using hlast
            have hout := Lib.hid (show (C.f11.take (k + 1)).foldl (linkStep C) (some (tk0 C)) = some (bump t' n2) by
              rw [fold_take_succ HV.out, HF.out, hstep.out, ← hnew.out, show j + 1 = x.f1.length by omega, List.take_length])
            clear hlast
            go_wp2
            exact ⟨⟨k + 1, _, by omega, by go_num, hout, HKq, HBq, HCq, HMq, HTq⟩, by simp [intOf]; omega⟩
          · have e9 : ((j : Int) == (x.f1.length : Int) - 1) = false := by simpa using hlast
            clear hlast
            go_wp2
            go_roundw
            case rel => exact ⟨j + 1, bump t' n2, by omega, by go_num, hnew, HKq, HBq, HCq, HMq, HTq, HXq, HSq⟩
            case measure => simp [intOf]; omega
        · have hout := Lib.hid (show (C.f11.take (k + 1)).foldl (linkStep C) (some (tk0 C)) = some t' by
            rw [fold_take_succ HV.out, HF.out, hstep.out, ← HFj.out, show j = x.f1.length by omega, List.take_length])
          go_wp2
          exact ⟨⟨k + 1, _, by omega, by go_num, hout, HKj, HBj, HCj, HMj, HTj⟩, by simp [intOf]; omega⟩
    · have hAll := Lib.hid (show (marks C).isSome = true by have := HF.out; rw [List.take_of_length_le (by omega)] at this; rw [marks, this]; rfl)
      obtain ⟨-, -, -, -, -, -, -, -, -, -, -, g11⟩ := cfg_cells HC.out
      clear HK HT
      go_wp2_with fail
      refine (callsIn_wide.1 (pairs_in Fence.wide 9 trivial rfl C.f11.length wr)).mono ?_
      rintro e w' ⟨rfl, rfl⟩
      have hbN : (wr.alloc (Obj.cells #[.int .i64 C.f11.length] 3)).heap[wr.heap.size]? = some (Obj.cells #[.int .i64 C.f11.length] 3) := blk_new wr _
      have hp0 : LI A1 A8 A9 A10 A11 c1 c8 c9 c10 c11 C w wr.heap.size [] (wr.alloc (Obj.cells #[.int .i64 C.f11.length] 3)) := ⟨⟨⟨⟨blk_alloc HC.out _, blk_alloc HM.out _⟩, blk_new wr _⟩, HB.out.alloc HB.out.size _⟩, rfl⟩
      have hsz1 : (wr.alloc (Obj.cells #[.int .i64 C.f11.length] 3)).heap.size = wr.heap.size + 1 := by simp
      obtain ⟨W3, hW3⟩ : ∃ W3, wr.alloc (Obj.cells #[.int .i64 C.f11.length] 3) = W3 := ⟨_, rfl⟩
      rw [hW3] at hbN hp0 hsz1 ⊢
      clear hW3
      have hcN := blk_cell hbN 0
      have hsw := HB.out.size
      go_wp2_with fail
      refine wpIn_wide.1 (range_own (F := Fence.wide) (n := 9) rfl (by omega) (gf := 78) rfl trivial (fun args w => rfl) (pairs_stops Fence.wide (9 - 1) trivial rfl (by omega) wr.heap.size C.f11.length (by omega) W3 hcN) KB.trans (KB.put (by omega)) (fun _ => rfl) (LI A1 A8 A9 A10 A11 c1 c8 c9 c10 c11 C w wr.heap.size) (LX C w) ?hI ?hIx hp0 ?hbody ?hdone ?hstop)
      case hI => exact ownFrom_and (ownFrom_and (ownFrom_and (ownFrom_and ownFrom_blk ownFrom_blk) ownFrom_blk) (ownFrom_below' (by omega) (Nat.le_refl _))) (ownFrom_const _)
      case hIx => exact fun c => ownFrom_and (ownFrom_and ownFrom_blk (ownFrom_below' (by omega) (Nat.le_refl _))) (ownFrom_const _)
      case hbody =>
        refine ⟨_, fun l x W K HK => by gi_wp2; exact HK.out, ?_⟩
        rintro l pre ⟨⟨kk, hkk⟩, ⟨ii, hii⟩⟩ W ⟨⟨⟨⟨hC, hC2⟩, hN⟩, hB⟩, hA⟩ _
        dsimp only at hii ⊢
        have hil : ii < C.f11.length := by omega
        have HC := Lib.hid hC
        have HC2 := Lib.hid hC2
        have HB := Lib.hid hB
        have HA := Lib.hid hA
        have HNb := Lib.hid hN
        have hltN := blk_lt hN
        clear hC hC2 hB hA hN
        obtain ⟨ad, a, Aa, ca, e11, a0, a1, a2, hca, -, HV⟩ := at_K (HR.out.below HB.out).2.2.2.2.2 ii hil
        obtain ⟨ad', b', Ab, cb, e11', b0, b1, b2, hcb, -, HV'⟩ := at_K (HR.out.below HB.out).2.2.2.2.2 kk hkk
        subst e11
        cases e11'
        obtain ⟨na, s, ps, p, ea, hs, eps, hpp, av1, av2, sv1, sv2, sd⟩ := link_valid HP.out hAll.out (List.mem_of_getElem? HV.out)
        obtain ⟨nb, u, pt, q, eb, hu, ept, hqq, bv1, bv2, uv1, uv2, ud⟩ := link_valid HP.out hAll.out (List.mem_of_getElem? HV'.out)
        rw [ea] at a0
        rw [eb] at b0
        have hpr := Lib.hid (show lkOk C ⟨⟨kk, hkk⟩, ⟨ii, hii⟩⟩ = !(decide (p.f0 = q.f0) && meetB a.f2 (a.f2 + 1 + s.f3) b'.f2 (b'.f2 + 1 + u.f3)) by
          simp only [lkOk]; rw [HV.out, HV'.out]; simp only [lkClash]; rw [ea, eb, Int.toNat_natCast, Int.toNat_natCast, hs, hu]; simp only; rw [eps, ept, Int.toNat_natCast, Int.toNat_natCast, hpp, hqq])
        obtain ⟨ad10, s', e10, c0, c1', c2, c3, c4, c5, HS⟩ := at_Q (HR.out.below HB.out).2.2.2.1.2 na (List.getElem?_eq_some_iff.1 hs).1
        have := HS.out; rw [hs] at this; cases this
        obtain ⟨ad10', u', e10', f0, f1, f2, f3, f4, f5, HU⟩ := at_Q (HR.out.below HB.out).2.2.2.1.2 nb (List.getElem?_eq_some_iff.1 hu).1
        have := HU.out; rw [hu] at this; cases this
        subst e10
        cases e10'
        obtain ⟨ad8, p', e8, p0, -, -, HPp⟩ := at_P (HR.out.below HB.out).2.1.2 ps (List.getElem?_eq_some_iff.1 hpp).1
        have := HPp.out; rw [hpp] at this; cases this
        obtain ⟨ad8', q', e8', q0, -, -, HQq⟩ := at_P (HR.out.below HB.out).2.1.2 pt (List.getElem?_eq_some_iff.1 hqq).1
        have := HQq.out; rw [hqq] at this; cases this
        subst e8
        cases e8'
        rw [eps] at c0
        rw [ept] at f0
        have hnal := (List.getElem?_eq_some_iff.1 hs).1
        have hnbl := (List.getElem?_eq_some_iff.1 hu).1
        have hpsl := (List.getElem?_eq_some_iff.1 hpp).1
        have hptl := (List.getElem?_eq_some_iff.1 hqq).1
        clear hs hu hpp hqq HS HU HPp HQq ea eb eps ept sd ud
        have hltW := blk_lt HC.out
        have hltW2 := blk_lt HC2.out
        obtain ⟨-, -, -, -, -, -, -, -, g8, -, g10, g11⟩ := cfg_cells HC.out
        gi_wp2
        refine region_round (S := Sd W) (N := 14) (σ := Nat × Nat) (ds := []) (fun z => [(139, .pointer (some ⟨w.heap.size, 11, none⟩)), (140, .slice (some ad) C.f11.length c11), (141, .int .i64 ii), (142, .pointer (some (ad.add (ii * 3)))), (143, .agg #[.int .i64 na, .slice Aa a.f1.length ca, .int .i64 a.f2]), (144, .pointer (some ⟨w.heap.size, 11, none⟩)), (145, .slice (some ad) C.f11.length c11), (146, .int .i64 kk), (147, .pointer (some (ad.add (kk * 3)))), (148, .agg #[.int .i64 nb, .slice Ab b'.f1.length cb, .int .i64 b'.f2]), (14, .pointer (some ⟨z.1, 0, none⟩)), (15, .pointer (some ⟨z.2, 0, none⟩))]) (fun z w' => w'.heap[z.1]? = some (Obj.cells #[.int .i64 na, .slice Aa a.f1.length ca, .int .i64 a.f2] 61) ∧ w'.heap[z.2]? = some (Obj.cells #[.int .i64 nb, .slice Ab b'.f1.length cb, .int .i64 b'.f2] 61) ∧ Sd W w') #[false, false, false, false, false, false, false, false, false, false, false, false, false, false] (Sd.drew0 W) (by kernel_rfl) (by kernel_rfl) rfl rfl ?_ ?_
        · have hS := Sd.drew0 W
          generalize W.drew = Wd at hS ⊢
          refine pure_ (i := 0) (N := some 139) (v := ?_) (a' := ?_) #[true, false, false, false, false, false, false, false, false, false, false, false, false, false] rfl rfl (by kernel_rfl) (fun _ _ _ h => by cases h.1) (Or.inl ⟨by rfl, ?_⟩) ?_ ?_
          rotate_left
          · intro w'
            go_simp
            with_reducible rfl
          rotate_left
          · simp only [Act.put, List.setIfInBounds_toArray, List.set_cons_zero, List.set_cons_succ]
            rfl
          refine take_ (i := 1) (N := some 140) (v := ?_) (a' := ?_) #[true, true, false, false, false, false, false, false, false, false, false, false, false, false] rfl rfl (by kernel_rfl) (fun _ _ _ h => by cases h.1) (Or.inl ⟨by rfl, ?_⟩) hS ?_ ?_
          rotate_left
          · intro w' hb
            have s0 := hb.cell g11
            go_simp
            with_reducible rfl
          rotate_left
          · simp only [Act.put, List.setIfInBounds_toArray, List.set_cons_zero, List.set_cons_succ]
            rfl
          refine pure_ (i := 2) (N := some 141) (v := ?_) (a' := ?_) #[true, true, true, false, false, false, false, false, false, false, false, false, false, false] rfl rfl (by kernel_rfl) (fun _ _ _ h => by cases h.1) (Or.inl ⟨by rfl, ?_⟩) ?_ ?_
          rotate_left
          · intro w'
            go_simp
            with_reducible rfl
          rotate_left
          · simp only [Act.put, List.setIfInBounds_toArray, List.set_cons_zero, List.set_cons_succ]
            rfl
          refine pure_ (i := 3) (N := some 142) (v := ?_) (a' := ?_) #[true, true, true, true, false, false, false, false, false, false, false, false, false, false] rfl rfl (by kernel_rfl) (fun _ _ _ h => by cases h.1) (Or.inl ⟨by rfl, ?_⟩) ?_ ?_
          rotate_left
          · intro w'
            go_simp
            with_reducible rfl
          rotate_left
          · simp only [Act.put, List.setIfInBounds_toArray, List.set_cons_zero, List.set_cons_succ]
            rfl
          refine take_ (i := 4) (N := some 143) (v := ?_) (a' := ?_) #[true, true, true, true, true, false, false, false, false, false, false, false, false, false] rfl rfl (by kernel_rfl) (fun _ _ _ h => by cases h.1) (Or.inl ⟨by rfl, ?_⟩) hS ?_ ?_
          rotate_left
          · intro w' hb
            have s0 := hb.cell a0
            have s1 := hb.cell a1
            have s2 := hb.cell a2
            go_simp
            with_reducible rfl
          rotate_left
          · simp only [Act.put, List.setIfInBounds_toArray, List.set_cons_zero, List.set_cons_succ]
            rfl
          refine pure_ (i := 5) (N := some 144) (v := ?_) (a' := ?_) #[true, true, true, true, true, true, false, false, false, false, false, false, false, false] rfl rfl (by kernel_rfl) (fun _ _ _ h => by cases h.1) (Or.inl ⟨by rfl, ?_⟩) ?_ ?_
          rotate_left
          · intro w'
            go_simp
            with_reducible rfl
          rotate_left
          · simp only [Act.put, List.setIfInBounds_toArray, List.set_cons_zero, List.set_cons_succ]
            rfl
          refine take_ (i := 6) (N := some 145) (v := ?_) (a' := ?_) #[true, true, true, true, true, true, true, false, false, false, false, false, false, false] rfl rfl (by kernel_rfl) (fun _ _ _ h => by cases h.1) (Or.inl ⟨by rfl, ?_⟩) hS ?_ ?_
          rotate_left
          · intro w' hb
            have s0 := hb.cell g11
            go_simp
            with_reducible rfl
          rotate_left
          · simp only [Act.put, List.setIfInBounds_toArray, List.set_cons_zero, List.set_cons_succ]
            rfl
          refine pure_ (i := 7) (N := some 146) (v := ?_) (a' := ?_) #[true, true, true, true, true, true, true, true, false, false, false, false, false, false] rfl rfl (by kernel_rfl) (fun _ _ _ h => by cases h.1) (Or.inl ⟨by rfl, ?_⟩) ?_ ?_
          rotate_left
          · intro w'
            go_simp
            with_reducible rfl
          rotate_left
          · simp only [Act.put, List.setIfInBounds_toArray, List.set_cons_zero, List.set_cons_succ]
            rfl
          refine pure_ (i := 8) (N := some 147) (v := ?_) (a' := ?_) #[true, true, true, true, true, true, true, true, true, false, false, false, false, false] rfl rfl (by kernel_rfl) (fun _ _ _ h => by cases h.1) (Or.inl ⟨by rfl, ?_⟩) ?_ ?_
          rotate_left
          · intro w'
            go_simp
            with_reducible rfl
          rotate_left
          · simp only [Act.put, List.setIfInBounds_toArray, List.set_cons_zero, List.set_cons_succ]
            rfl
          refine take_ (i := 9) (N := some 148) (v := ?_) (a' := ?_) #[true, true, true, true, true, true, true, true, true, true, false, false, false, false] rfl rfl (by kernel_rfl) (fun _ _ _ h => by cases h.1) (Or.inl ⟨by rfl, ?_⟩) hS ?_ ?_
          rotate_left
          · intro w' hb
            have s0 := hb.cell b0
            have s1 := hb.cell b1
            have s2 := hb.cell b2
            go_simp
            with_reducible rfl
          rotate_left
          · simp only [Act.put, List.setIfInBounds_toArray, List.set_cons_zero, List.set_cons_succ]
            rfl
          have hlw := hS.1.size
          refine two_ (i := 10) (j := 11) #[true, true, true, true, true, true, true, true, true, true, true, false, false, false] #[true, true, true, true, true, true, true, true, true, true, false, true, false, false] rfl rfl rfl rfl (by kernel_rfl) (by simp) (by simp) (fun K hK => ?_) (fun K hK => ?_)
          · go_simp
            refine hK.out _ _ (hS.alloc _ _) (fun hS2 => ?_)
            clear hK K
            refine one_ (i := 11) (N := some 15) #[true, true, true, true, true, true, true, true, true, true, true, true, false, false] rfl rfl (by kernel_rfl) (by simp) (fun K hK => ?_)
            go_simp
            refine hK.out _ _ (hS2.alloc _ _) (fun _ => ?_)
            clear hK K
            refine one_ (i := 12) (N := none) #[true, true, true, true, true, true, true, true, true, true, true, true, true, false] rfl rfl (by kernel_rfl) (by simp) (fun K hK => ?_)
            go_simp
            refine hK.out _ _ ((hS.alloc _ _).alloc _ _) (fun _ => ?_)
            clear hK K
            refine one_ (i := 13) (N := none) #[true, true, true, true, true, true, true, true, true, true, true, true, true, true] rfl rfl (by kernel_rfl) (by simp) (fun K hK => ?_)
            go_simp
            refine hK.out _ _ ((hS.alloc _ _).alloc _ _) (fun _ => ?_)
            clear hK K
            refine done_ (by kernel_rfl) ?_
            exact ⟨rfl, (Wd.heap.size, Wd.heap.size + 1), by simp only [putAll, Act.put, List.setIfInBounds_toArray, List.set_cons_zero, List.set_cons_succ], blk_alloc (blk_new _ _) _, by rw [← World.size_alloc Wd]; exact blk_new _ _, (hS.alloc _ _).alloc _ _⟩
          · go_simp
            refine hK.out _ _ (hS.alloc _ _) (fun hS2 => ?_)
            clear hK K
            refine one_ (i := 10) (N := some 14) #[true, true, true, true, true, true, true, true, true, true, true, true, false, false] rfl rfl (by kernel_rfl) (by simp) (fun K hK => ?_)
            go_simp
            refine hK.out _ _ (hS2.alloc _ _) (fun _ => ?_)
            clear hK K
            refine one_ (i := 12) (N := none) #[true, true, true, true, true, true, true, true, true, true, true, true, true, false] rfl rfl (by kernel_rfl) (by simp) (fun K hK => ?_)
            go_simp
            refine hK.out _ _ ((hS.alloc _ _).alloc _ _) (fun _ => ?_)
            clear hK K
            refine one_ (i := 13) (N := none) #[true, true, true, true, true, true, true, true, true, true, true, true, true, true] rfl rfl (by kernel_rfl) (by simp) (fun K hK => ?_)
            go_simp
            refine hK.out _ _ ((hS.alloc _ _).alloc _ _) (fun _ => ?_)
            clear hK K
            refine done_ (by kernel_rfl) ?_
            exact ⟨rfl, (Wd.heap.size + 1, Wd.heap.size), by simp only [putAll, Act.put, List.setIfInBounds_toArray, List.set_cons_zero, List.set_cons_succ], by rw [← World.size_alloc Wd]; exact blk_new _ _, blk_alloc (blk_new _ _) _, (hS.alloc _ _).alloc _ _⟩
        rintro ⟨bp, bq⟩ V1 ⟨hbp, hbq, hSd1⟩
        dsimp only at hbp hbq
        have HBp := Lib.hid hbp
        have HBq := Lib.hid hbq
        have HSd1 := Lib.hid hSd1
        replace g10 := hSd1.cell g10
        replace g8 := hSd1.cell g8
        replace c0 := hSd1.cell c0
        replace c1' := hSd1.cell c1'
        replace c2 := hSd1.cell c2
        replace c3 := hSd1.cell c3
        replace c4 := hSd1.cell c4
        replace c5 := hSd1.cell c5
        replace f0 := hSd1.cell f0
        replace f1 := hSd1.cell f1
        replace f2 := hSd1.cell f2
        replace f3 := hSd1.cell f3
        replace f4 := hSd1.cell f4
        replace f5 := hSd1.cell f5
        replace p0 := hSd1.cell p0
        replace q0 := hSd1.cell q0
        have y0 := blk_cell hbp 0
        have y2 := blk_cell hbp 2
        have z0 := blk_cell hbq 0
        have z2 := blk_cell hbq 2
        clear hbp hbq hSd1 a0 a1 a2 b0 b1 b2 g11
        simp only [putAll, Act.put, List.setIfInBounds_toArray, List.set_cons_zero, List.set_cons_succ]
        gi_wp2
        refine region_round (S := Sd V1) (N := 16) (σ := Nat × Nat) (ds := []) (fun z => [(149, .pointer (some ⟨w.heap.size, 10, none⟩)), (150, .slice (some ad10) C.f10.length c10), (151, .pointer (some ⟨bp, 0, none⟩)), (152, .int .i64 na), (153, .pointer (some (ad10.add (na * 6)))), (154, .agg #[.int .i64 ps, .int .i64 s.f1, .int .i64 s.f2, .int .i64 s.f3, .int .i64 s.f4, .int .i64 s.f5]), (155, .pointer (some ⟨w.heap.size, 10, none⟩)), (156, .slice (some ad10) C.f10.length c10), (157, .pointer (some ⟨bq, 0, none⟩)), (158, .int .i64 nb), (159, .pointer (some (ad10.add (nb * 6)))), (160, .agg #[.int .i64 pt, .int .i64 u.f1, .int .i64 u.f2, .int .i64 u.f3, .int .i64 u.f4, .int .i64 u.f5]), (16, .pointer (some ⟨z.1, 0, none⟩)), (17, .pointer (some ⟨z.2, 0, none⟩))]) (fun z w' => w'.heap[z.1]? = some (Obj.cells #[.int .i64 ps, .int .i64 s.f1, .int .i64 s.f2, .int .i64 s.f3, .int .i64 s.f4, .int .i64 s.f5] 59) ∧ w'.heap[z.2]? = some (Obj.cells #[.int .i64 pt, .int .i64 u.f1, .int .i64 u.f2, .int .i64 u.f3, .int .i64 u.f4, .int .i64 u.f5] 59) ∧ Sd V1 w') #[false, false, false, false, false, false, false, false, false, false, false, false, false, false, false, false] (Sd.drew0 V1) (by kernel_rfl) (by kernel_rfl) rfl rfl ?_ ?_
        · have hS := Sd.drew0 V1
          generalize V1.drew = Wd at hS ⊢
          refine pure_ (i := 0) (N := some 149) (v := ?_) (a' := ?_) #[true, false, false, false, false, false, false, false, false, false, false, false, false, false, false, false] rfl rfl (by kernel_rfl) (fun _ _ _ h => by cases h.1) (Or.inl ⟨by rfl, ?_⟩) ?_ ?_
          rotate_left
          · intro w'
            go_simp
            with_reducible rfl
          rotate_left
          · simp only [Act.put, List.setIfInBounds_toArray, List.set_cons_zero, List.set_cons_succ]
            rfl
          refine take_ (i := 1) (N := some 150) (v := ?_) (a' := ?_) #[true, true, false, false, false, false, false, false, false, false, false, false, false, false, false, false] rfl rfl (by kernel_rfl) (fun _ _ _ h => by cases h.1) (Or.inl ⟨by rfl, ?_⟩) hS ?_ ?_
          rotate_left
          · intro w' hb
            have s0 := hb.cell g10
            go_simp
            with_reducible rfl
          rotate_left
          · simp only [Act.put, List.setIfInBounds_toArray, List.set_cons_zero, List.set_cons_succ]
            rfl
          refine pure_ (i := 2) (N := some 151) (v := ?_) (a' := ?_) #[true, true, true, false, false, false, false, false, false, false, false, false, false, false, false, false] rfl rfl (by kernel_rfl) (fun _ _ _ h => by cases h.1) (Or.inl ⟨by rfl, ?_⟩) ?_ ?_
          rotate_left
          · intro w'
            go_simp
            with_reducible rfl
          rotate_left
          · simp only [Act.put, List.setIfInBounds_toArray, List.set_cons_zero, List.set_cons_succ]
            rfl
          refine take_ (i := 3) (N := some 152) (v := ?_) (a' := ?_) #[true, true, true, true, false, false, false, false, false, false, false, false, false, false, false, false] rfl rfl (by kernel_rfl) (fun _ _ _ h => by cases h.1) (Or.inl ⟨by rfl, ?_⟩) hS ?_ ?_
          rotate_left
          · intro w' hb
            have s0 := hb.cell y0
            go_simp
            with_reducible rfl
          rotate_left
          · simp only [Act.put, List.setIfInBounds_toArray, List.set_cons_zero, List.set_cons_succ]
            rfl
          refine pure_ (i := 4) (N := some 153) (v := ?_) (a' := ?_) #[true, true, true, true, true, false, false, false, false, false, false, false, false, false, false, false] rfl rfl (by kernel_rfl) (fun _ _ _ h => by cases h.1) (Or.inl ⟨by rfl, ?_⟩) ?_ ?_
          rotate_left
          · intro w'
            go_simp
            with_reducible rfl
          rotate_left
          · simp only [Act.put, List.setIfInBounds_toArray, List.set_cons_zero, List.set_cons_succ]
            rfl
          refine take_ (i := 5) (N := some 154) (v := ?_) (a' := ?_) #[true, true, true, true, true, true, false, false, false, false, false, false, false, false, false, false] rfl rfl (by kernel_rfl) (fun _ _ _ h => by cases h.1) (Or.inl ⟨by rfl, ?_⟩) hS ?_ ?_
          rotate_left
          · intro w' hb
            have s0 := hb.cell c0
            have s1 := hb.cell c1'
            have s2 := hb.cell c2
            have s3 := hb.cell c3
            have s4 := hb.cell c4
            have s5 := hb.cell c5
            go_simp
            with_reducible rfl
          rotate_left
          · simp only [Act.put, List.setIfInBounds_toArray, List.set_cons_zero, List.set_cons_succ]
            rfl
          refine pure_ (i := 6) (N := some 155) (v := ?_) (a' := ?_) #[true, true, true, true, true, true, true, false, false, false, false, false, false, false, false, false] rfl rfl (by kernel_rfl) (fun _ _ _ h => by cases h.1) (Or.inl ⟨by rfl, ?_⟩) ?_ ?_
          rotate_left
          · intro w'
            go_simp
            with_reducible rfl
          rotate_left
          · simp only [Act.put, List.setIfInBounds_toArray, List.set_cons_zero, List.set_cons_succ]
            rfl
          refine take_ (i := 7) (N := some 156) (v := ?_) (a' := ?_) #[true, true, true, true, true, true, true, true, false, false, false, false, false, false, false, false] rfl rfl (by kernel_rfl) (fun _ _ _ h => by cases h.1) (Or.inl ⟨by rfl, ?_⟩) hS ?_ ?_
          rotate_left
          · intro w' hb
            have s0 := hb.cell g10
            go_simp
            with_reducible rfl
          rotate_left
          · simp only [Act.put, List.setIfInBounds_toArray, List.set_cons_zero, List.set_cons_succ]
            rfl
          refine pure_ (i := 8) (N := some 157) (v := ?_) (a' := ?_) #[true, true, true, true, true, true, true, true, true, false, false, false, false, false, false, false] rfl rfl (by kernel_rfl) (fun _ _ _ h => by cases h.1) (Or.inl ⟨by rfl, ?_⟩) ?_ ?_
          rotate_left
          · intro w'
            go_simp
            with_reducible rfl
          rotate_left
          · simp only [Act.put, List.setIfInBounds_toArray, List.set_cons_zero, List.set_cons_succ]
            rfl
          refine take_ (i := 9) (N := some 158) (v := ?_) (a' := ?_) #[true, true, true, true, true, true, true, true, true, true, false, false, false, false, false, false] rfl rfl (by kernel_rfl) (fun _ _ _ h => by cases h.1) (Or.inl ⟨by rfl, ?_⟩) hS ?_ ?_
          rotate_left
          · intro w' hb
            have s0 := hb.cell z0
            go_simp
            with_reducible rfl
          rotate_left
          · simp only [Act.put, List.setIfInBounds_toArray, List.set_cons_zero, List.set_cons_succ]
            rfl
          refine pure_ (i := 10) (N := some 159) (v := ?_) (a' := ?_) #[true, true, true, true, true, true, true, true, true, true, true, false, false, false, false, false] rfl rfl (by kernel_rfl) (fun _ _ _ h => by cases h.1) (Or.inl ⟨by rfl, ?_⟩) ?_ ?_
          rotate_left
          · intro w'
            go_simp
            with_reducible rfl
          rotate_left
          · simp only [Act.put, List.setIfInBounds_toArray, List.set_cons_zero, List.set_cons_succ]
            rfl
          refine take_ (i := 11) (N := some 160) (v := ?_) (a' := ?_) #[true, true, true, true, true, true, true, true, true, true, true, true, false, false, false, false] rfl rfl (by kernel_rfl) (fun _ _ _ h => by cases h.1) (Or.inl ⟨by rfl, ?_⟩) hS ?_ ?_
          rotate_left
          · intro w' hb
            have s0 := hb.cell f0
            have s1 := hb.cell f1
            have s2 := hb.cell f2
            have s3 := hb.cell f3
            have s4 := hb.cell f4
            have s5 := hb.cell f5
            go_simp
            with_reducible rfl
          rotate_left
          · simp only [Act.put, List.setIfInBounds_toArray, List.set_cons_zero, List.set_cons_succ]
            rfl
          have hlw := hS.1.size
          refine two_ (i := 12) (j := 13) #[true, true, true, true, true, true, true, true, true, true, true, true, true, false, false, false] #[true, true, true, true, true, true, true, true, true, true, true, true, false, true, false, false] rfl rfl rfl rfl (by kernel_rfl) (by simp) (by simp) (fun K hK => ?_) (fun K hK => ?_)
          · go_simp
            refine hK.out _ _ (hS.alloc _ _) (fun hS2 => ?_)
            clear hK K
            refine one_ (i := 13) (N := some 17) #[true, true, true, true, true, true, true, true, true, true, true, true, true, true, false, false] rfl rfl (by kernel_rfl) (by simp) (fun K hK => ?_)
            go_simp
            refine hK.out _ _ (hS2.alloc _ _) (fun _ => ?_)
            clear hK K
            refine one_ (i := 14) (N := none) #[true, true, true, true, true, true, true, true, true, true, true, true, true, true, true, false] rfl rfl (by kernel_rfl) (by simp) (fun K hK => ?_)
            go_simp
            refine hK.out _ _ ((hS.alloc _ _).alloc _ _) (fun _ => ?_)
            clear hK K
            refine one_ (i := 15) (N := none) #[true, true, true, true, true, true, true, true, true, true, true, true, true, true, true, true] rfl rfl (by kernel_rfl) (by simp) (fun K hK => ?_)
            go_simp
            refine hK.out _ _ ((hS.alloc _ _).alloc _ _) (fun _ => ?_)
            clear hK K
            refine done_ (by kernel_rfl) ?_
            exact ⟨rfl, (Wd.heap.size, Wd.heap.size + 1), by simp only [putAll, Act.put, List.setIfInBounds_toArray, List.set_cons_zero, List.set_cons_succ], blk_alloc (blk_new _ _) _, by rw [← World.size_alloc Wd]; exact blk_new _ _, (hS.alloc _ _).alloc _ _⟩
          · go_simp
            refine hK.out _ _ (hS.alloc _ _) (fun hS2 => ?_)
            clear hK K
            refine one_ (i := 12) (N := some 16) #[true, true, true, true, true, true, true, true, true, true, true, true, true, true, false, false] rfl rfl (by kernel_rfl) (by simp) (fun K hK => ?_)
            go_simp
            refine hK.out _ _ (hS2.alloc _ _) (fun _ => ?_)
            clear hK K
            refine one_ (i := 14) (N := none) #[true, true, true, true, true, true, true, true, true, true, true, true, true, true, true, false] rfl rfl (by kernel_rfl) (by simp) (fun K hK => ?_)
            go_simp
            refine hK.out _ _ ((hS.alloc _ _).alloc _ _) (fun _ => ?_)
            clear hK K
            refine one_ (i := 15) (N := none) #[true, true, true, true, true, true, true, true, true, true, true, true, true, true, true, true] rfl rfl (by kernel_rfl) (by simp) (fun K hK => ?_)
            go_simp
            refine hK.out _ _ ((hS.alloc _ _).alloc _ _) (fun _ => ?_)
            clear hK K
            refine done_ (by kernel_rfl) ?_
            exact ⟨rfl, (Wd.heap.size + 1, Wd.heap.size), by simp only [putAll, Act.put, List.setIfInBounds_toArray, List.set_cons_zero, List.set_cons_succ], by rw [← World.size_alloc Wd]; exact blk_new _ _, blk_alloc (blk_new _ _) _, (hS.alloc _ _).alloc _ _⟩
        rintro ⟨cp, cq⟩ V2 ⟨hcp, hcq, hSd2⟩
        dsimp only at hcp hcq
        have HSd2 := Lib.hid hSd2
        replace g8 := hSd2.cell g8
        replace p0 := hSd2.cell p0
        replace q0 := hSd2.cell q0
        replace y2 := hSd2.cell y2
        replace z2 := hSd2.cell z2
        have m0 := blk_cell hcp 0
        have m3 := blk_cell hcp 3
        have n0 := blk_cell hcq 0
        have n3 := blk_cell hcq 3
        clear hcp hcq hSd2 c0 c1' c2 c3 c4 c5 f0 f1 f2 f3 f4 f5 g10 y0 z0
        simp only [putAll, Act.put, List.setIfInBounds_toArray, List.set_cons_zero, List.set_cons_succ]
        gi_wp2
        have HC2V := Lib.hid ((HSd2.out.1.block _ (Nat.lt_of_lt_of_le hltW2 HSd1.out.1.size)).trans ((HSd1.out.1.block _ hltW2).trans HC2.out))
        have HCV := Lib.hid ((HSd2.out.1.block _ (Nat.lt_of_lt_of_le hltW HSd1.out.1.size)).trans ((HSd1.out.1.block _ hltW).trans HC.out))
        have HNV := Lib.hid ((HSd2.out.1.block _ (Nat.lt_of_lt_of_le hltN HSd1.out.1.size)).trans ((HSd1.out.1.block _ hltN).trans HNb.out))
        have HSV := Lib.hid (show Sd W V2 from ⟨HSd1.out.1.trans (HSd2.out.1.mono HSd1.out.1.size), HSd1.out.2.trans HSd2.out.2⟩)
        have hltV := blk_lt HC2V.out
        have hltV0 := blk_lt HCV.out
        have hltVN := blk_lt HNV.out
        by_cases c0' : p.f0 = q.f0
        · have e0 : (p.f0 == q.f0) = true := by simpa using c0'
          obtain ⟨bm, hbm⟩ : ∃ bm, bm = meetB a.f2 (a.f2 + 1 + s.f3) b'.f2 (b'.f2 + 1 + u.f3) := ⟨_, rfl⟩
          have HBM := Lib.hid hbm
          have Hc0 := Lib.hid c0'
          clear c0' hbm
          have k1 : IntKind.i64.wrap (a.f2 + 1) = a.f2 + 1 := IntWalk.i64_in _ (by omega)
          have k2 : IntKind.i64.wrap (a.f2 + 1 + s.f3) = a.f2 + 1 + s.f3 := IntWalk.i64_in _ (by omega)
          have k3 : IntKind.i64.wrap (b'.f2 + 1) = b'.f2 + 1 := IntWalk.i64_in _ (by omega)
          have k4 : IntKind.i64.wrap (b'.f2 + 1 + u.f3) = b'.f2 + 1 + u.f3 := IntWalk.i64_in _ (by omega)
          refine region_round (S := Sd V2) (N := 34) (σ := Unit) (ds := []) (fun _ => [(161, .pointer (some ⟨w.heap.size, 8, none⟩)), (162, .slice (some ad8) C.f8.length c8), (163, .pointer (some ⟨cp, 0, none⟩)), (164, .int .i64 ps), (165, .pointer (some (ad8.add (ps * 3)))), (166, .pointer (some (ad8.add (ps * 3)))), (167, .int .i64 p.f0), (168, .pointer (some ⟨w.heap.size, 8, none⟩)), (169, .slice (some ad8) C.f8.length c8), (170, .pointer (some ⟨cq, 0, none⟩)), (171, .int .i64 pt), (172, .pointer (some (ad8.add (pt * 3)))), (173, .pointer (some (ad8.add (pt * 3)))), (174, .int .i64 q.f0), (175, .bool true), (176, .bool true), (177, .pointer (some ⟨bp, 2, none⟩)), (178, .int .i64 a.f2), (179, .pointer (some ⟨bp, 2, none⟩)), (180, .int .i64 a.f2), (181, .int .i64 (a.f2 + 1)), (182, .pointer (some ⟨cp, 3, none⟩)), (183, .int .i64 s.f3), (184, .int .i64 (a.f2 + 1 + s.f3)), (185, .pointer (some ⟨bq, 2, none⟩)), (186, .int .i64 b'.f2), (187, .pointer (some ⟨bq, 2, none⟩)), (188, .int .i64 b'.f2), (189, .int .i64 (b'.f2 + 1)), (190, .pointer (some ⟨cq, 3, none⟩)), (191, .int .i64 u.f3), (192, .int .i64 (b'.f2 + 1 + u.f3)), (193, .bool bm), (194, .bool bm)]) (fun _ w' => Sd V2 w') #[false, false, false, false, false, false, false, false, false, false, false, false, false, false, false, false, false, false, false, false, false, false, false, false, false, false, false, false, false, false, false, false, false, false] (Sd.drew0 V2) (by kernel_rfl) (by kernel_rfl) rfl rfl ?_ ?_
          · have hS := Sd.drew0 V2
            generalize V2.drew = Wd at hS ⊢
            refine pure_ (i := 0) (N := some 161) (v := ?_) (a' := ?_) #[true, false, false, false, false, false, false, false, false, false, false, false, false, false, false, false, false, false, false, false, false, false, false, false, false, false, false, false, false, false, false, false, false, false] rfl rfl (by kernel_rfl) (fun _ _ _ h => by cases h.1) (Or.inl ⟨by rfl, ?_⟩) ?_ ?_
            rotate_left
            · intro w'
              go_simp
              with_reducible rfl
            rotate_left
            · simp only [Act.put, List.setIfInBounds_toArray, List.set_cons_zero, List.set_cons_succ]
              rfl
            refine take_ (i := 1) (N := some 162) (v := ?_) (a' := ?_) #[true, true, false, false, false, false, false, false, false, false, false, false, false, false, false, false, false, false, false, false, false, false, false, false, false, false, false, false, false, false, false, false, false, false] rfl rfl (by kernel_rfl) (fun _ _ _ h => by cases h.1) (Or.inl ⟨by rfl, ?_⟩) hS ?_ ?_
            rotate_left
            · intro w' hb
              have s0 := hb.cell g8
              go_simp
              with_reducible rfl
            rotate_left
            · simp only [Act.put, List.setIfInBounds_toArray, List.set_cons_zero, List.set_cons_succ]
              rfl
            refine pure_ (i := 2) (N := some 163) (v := ?_) (a' := ?_) #[true, true, true, false, false, false, false, false, false, false, false, false, false, false, false, false, false, false, false, false, false, false, false, false, false, false, false, false, false, false, false, false, false, false] rfl rfl (by kernel_rfl) (fun _ _ _ h => by cases h.1) (Or.inl ⟨by rfl, ?_⟩) ?_ ?_
            rotate_left
            · intro w'
              go_simp
              with_reducible rfl
            rotate_left
            · simp only [Act.put, List.setIfInBounds_toArray, List.set_cons_zero, List.set_cons_succ]
              rfl
            refine take_ (i := 3) (N := some 164) (v := ?_) (a' := ?_) #[true, true, true, true, false, false, false, false, false, false, false, false, false, false, false, false, false, false, false, false, false, false, false, false, false, false, false, false, false, false, false, false, false, false] rfl rfl (by kernel_rfl) (fun _ _ _ h => by cases h.1) (Or.inl ⟨by rfl, ?_⟩) hS ?_ ?_
            rotate_left
            · intro w' hb
              have s0 := hb.cell m0
              go_simp
              with_reducible rfl
            rotate_left
            · simp only [Act.put, List.setIfInBounds_toArray, List.set_cons_zero, List.set_cons_succ]
              rfl
            refine pure_ (i := 4) (N := some 165) (v := ?_) (a' := ?_) #[true, true, true, true, true, false, false, false, false, false, false, false, false, false, false, false, false, false, false, false, false, false, false, false, false, false, false, false, false, false, false, false, false, false] rfl rfl (by kernel_rfl) (fun _ _ _ h => by cases h.1) (Or.inl ⟨by rfl, ?_⟩) ?_ ?_
            rotate_left
            · intro w'
              go_simp
              with_reducible rfl
            rotate_left
            · simp only [Act.put, List.setIfInBounds_toArray, List.set_cons_zero, List.set_cons_succ]
              rfl
            refine pure_ (i := 5) (N := some 166) (v := ?_) (a' := ?_) #[true, true, true, true, true, true, false, false, false, false, false, false, false, false, false, false, false, false, false, false, false, false, false, false, false, false, false, false, false, false, false, false, false, false] rfl rfl (by kernel_rfl) (fun _ _ _ h => by cases h.1) (Or.inl ⟨by rfl, ?_⟩) ?_ ?_
            rotate_left
            · intro w'
              go_simp
              with_reducible rfl
            rotate_left
            · simp only [Act.put, List.setIfInBounds_toArray, List.set_cons_zero, List.set_cons_succ]
              rfl
            refine take_ (i := 6) (N := some 167) (v := ?_) (a' := ?_) #[true, true, true, true, true, true, true, false, false, false, false, false, false, false, false, false, false, false, false, false, false, false, false, false, false, false, false, false, false, false, false, false, false, false] rfl rfl (by kernel_rfl) (fun _ _ _ h => by cases h.1) (Or.inl ⟨by rfl, ?_⟩) hS ?_ ?_
            rotate_left
            · intro w' hb
              have s0 := hb.cell p0
              go_simp
              with_reducible rfl
            rotate_left
            · simp only [Act.put, List.setIfInBounds_toArray, List.set_cons_zero, List.set_cons_succ]
              rfl
            refine pure_ (i := 7) (N := some 168) (v := ?_) (a' := ?_) #[true, true, true, true, true, true, true, true, false, false, false, false, false, false, false, false, false, false, false, false, false, false, false, false, false, false, false, false, false, false, false, false, false, false] rfl rfl (by kernel_rfl) (fun _ _ _ h => by cases h.1) (Or.inl ⟨by rfl, ?_⟩) ?_ ?_
            rotate_left
            · intro w'
              go_simp
              with_reducible rfl
            rotate_left
            · simp only [Act.put, List.setIfInBounds_toArray, List.set_cons_zero, List.set_cons_succ]
              rfl
            refine take_ (i := 8) (N := some 169) (v := ?_) (a' := ?_) #[true, true, true, true, true, true, true, true, true, false, false, false, false, false, false, false, false, false, false, false, false, false, false, false, false, false, false, false, false, false, false, false, false, false] rfl rfl (by kernel_rfl) (fun _ _ _ h => by cases h.1) (Or.inl ⟨by rfl, ?_⟩) hS ?_ ?_
            rotate_left
            · intro w' hb
              have s0 := hb.cell g8
              go_simp
              with_reducible rfl
            rotate_left
            · simp only [Act.put, List.setIfInBounds_toArray, List.set_cons_zero, List.set_cons_succ]
              rfl
            refine pure_ (i := 9) (N := some 170) (v := ?_) (a' := ?_) #[true, true, true, true, true, true, true, true, true, true, false, false, false, false, false, false, false, false, false, false, false, false, false, false, false, false, false, false, false, false, false, false, false, false] rfl rfl (by kernel_rfl) (fun _ _ _ h => by cases h.1) (Or.inl ⟨by rfl, ?_⟩) ?_ ?_
            rotate_left
            · intro w'
              go_simp
              with_reducible rfl
            rotate_left
            · simp only [Act.put, List.setIfInBounds_toArray, List.set_cons_zero, List.set_cons_succ]
              rfl
            refine take_ (i := 10) (N := some 171) (v := ?_) (a' := ?_) #[true, true, true, true, true, true, true, true, true, true, true, false, false, false, false, false, false, false, false, false, false, false, false, false, false, false, false, false, false, false, false, false, false, false] rfl rfl (by kernel_rfl) (fun _ _ _ h => by cases h.1) (Or.inl ⟨by rfl, ?_⟩) hS ?_ ?_
            rotate_left
            · intro w' hb
              have s0 := hb.cell n0
              go_simp
              with_reducible rfl
            rotate_left
            · simp only [Act.put, List.setIfInBounds_toArray, List.set_cons_zero, List.set_cons_succ]
              rfl
            refine pure_ (i := 11) (N := some 172) (v := ?_) (a' := ?_) #[true, true, true, true, true, true, true, true, true, true, true, true, false, false, false, false, false, false, false, false, false, false, false, false, false, false, false, false, false, false, false, false, false, false] rfl rfl (by kernel_rfl) (fun _ _ _ h => by cases h.1) (Or.inl ⟨by rfl, ?_⟩) ?_ ?_
            rotate_left
            · intro w'
              go_simp
              with_reducible rfl
            rotate_left
            · simp only [Act.put, List.setIfInBounds_toArray, List.set_cons_zero, List.set_cons_succ]
              rfl
            refine pure_ (i := 12) (N := some 173) (v := ?_) (a' := ?_) #[true, true, true, true, true, true, true, true, true, true, true, true, true, false, false, false, false, false, false, false, false, false, false, false, false, false, false, false, false, false, false, false, false, false] rfl rfl (by kernel_rfl) (fun _ _ _ h => by cases h.1) (Or.inl ⟨by rfl, ?_⟩) ?_ ?_
            rotate_left
            · intro w'
              go_simp
              with_reducible rfl
            rotate_left
            · simp only [Act.put, List.setIfInBounds_toArray, List.set_cons_zero, List.set_cons_succ]
              rfl
            refine take_ (i := 13) (N := some 174) (v := ?_) (a' := ?_) #[true, true, true, true, true, true, true, true, true, true, true, true, true, true, false, false, false, false, false, false, false, false, false, false, false, false, false, false, false, false, false, false, false, false] rfl rfl (by kernel_rfl) (fun _ _ _ h => by cases h.1) (Or.inl ⟨by rfl, ?_⟩) hS ?_ ?_
            rotate_left
            · intro w' hb
              have s0 := hb.cell q0
              go_simp
              with_reducible rfl
            rotate_left
            · simp only [Act.put, List.setIfInBounds_toArray, List.set_cons_zero, List.set_cons_succ]
              rfl
            refine pure_ (i := 14) (N := some 175) (v := ?_) (a' := ?_) #[true, true, true, true, true, true, true, true, true, true, true, true, true, true, true, false, false, false, false, false, false, false, false, false, false, false, false, false, false, false, false, false, false, false] rfl rfl (by kernel_rfl) (fun _ _ _ h => by cases h.1) (Or.inl ⟨by rfl, ?_⟩) ?_ ?_
            rotate_left
            · intro w'
              go_simp
              with_reducible rfl
            rotate_left
            · simp only [Act.put, List.setIfInBounds_toArray, List.set_cons_zero, List.set_cons_succ]
              rfl
            refine pure_ (i := 15) (N := some 176) (v := ?_) (a' := ?_) #[true, true, true, true, true, true, true, true, true, true, true, true, true, true, true, true, false, false, false, false, false, false, false, false, false, false, false, false, false, false, false, false, false, false] rfl rfl (by kernel_rfl) (fun _ _ _ h => by cases h.1) (Or.inl ⟨by rfl, ?_⟩) ?_ ?_
            rotate_left
            · intro w'
              go_simp
              with_reducible rfl
            rotate_left
            · simp only [Act.put, List.setIfInBounds_toArray, List.set_cons_zero, List.set_cons_succ]
              rfl
            refine pure_ (i := 16) (N := some 177) (v := ?_) (a' := ?_) #[true, true, true, true, true, true, true, true, true, true, true, true, true, true, true, true, true, false, false, false, false, false, false, false, false, false, false, false, false, false, false, false, false, false] rfl rfl (by kernel_rfl) (fun _ _ _ h => by cases h.1) (Or.inl ⟨by rfl, ?_⟩) ?_ ?_
            rotate_left
            · intro w'
              go_simp
              with_reducible rfl
            rotate_left
            · simp only [Act.put, List.setIfInBounds_toArray, List.set_cons_zero, List.set_cons_succ]
              rfl
            refine take_ (i := 17) (N := some 178) (v := ?_) (a' := ?_) #[true, true, true, true, true, true, true, true, true, true, true, true, true, true, true, true, true, true, false, false, false, false, false, false, false, false, false, false, false, false, false, false, false, false] rfl rfl (by kernel_rfl) (fun _ _ _ h => by cases h.1) (Or.inl ⟨by rfl, ?_⟩) hS ?_ ?_
            rotate_left
            · intro w' hb
              have s0 := hb.cell y2
              go_simp
              with_reducible rfl
            rotate_left
            · simp only [Act.put, List.setIfInBounds_toArray, List.set_cons_zero, List.set_cons_succ]
              rfl
            refine pure_ (i := 18) (N := some 179) (v := ?_) (a' := ?_) #[true, true, true, true, true, true, true, true, true, true, true, true, true, true, true, true, true, true, true, false, false, false, false, false, false, false, false, false, false, false, false, false, false, false] rfl rfl (by kernel_rfl) (fun _ _ _ h => by cases h.1) (Or.inl ⟨by rfl, ?_⟩) ?_ ?_
            rotate_left
            · intro w'
              go_simp
              with_reducible rfl
            rotate_left
            · simp only [Act.put, List.setIfInBounds_toArray, List.set_cons_zero, List.set_cons_succ]
              rfl
            refine take_ (i := 19) (N := some 180) (v := ?_) (a' := ?_) #[true, true, true, true, true, true, true, true, true, true, true, true, true, true, true, true, true, true, true, true, false, false, false, false, false, false, false, false, false, false, false, false, false, false] rfl rfl (by kernel_rfl) (fun _ _ _ h => by cases h.1) (Or.inl ⟨by rfl, ?_⟩) hS ?_ ?_
            rotate_left
            · intro w' hb
              have s0 := hb.cell y2
              go_simp
              with_reducible rfl
            rotate_left
            · simp only [Act.put, List.setIfInBounds_toArray, List.set_cons_zero, List.set_cons_succ]
              rfl
            refine pure_ (i := 20) (N := some 181) (v := ?_) (a' := ?_) #[true, true, true, true, true, true, true, true, true, true, true, true, true, true, true, true, true, true, true, true, true, false, false, false, false, false, false, false, false, false, false, false, false, false] rfl rfl (by kernel_rfl) (fun _ _ _ h => by cases h.1) (Or.inl ⟨by rfl, ?_⟩) ?_ ?_
            rotate_left
            · intro w'
              go_simp
              with_reducible rfl
            rotate_left
            · simp only [Act.put, List.setIfInBounds_toArray, List.set_cons_zero, List.set_cons_succ]
              rfl
            refine pure_ (i := 21) (N := some 182) (v := ?_) (a' := ?_) #[true, true, true, true, true, true, true, true, true, true, true, true, true, true, true, true, true, true, true, true, true, true, false, false, false, false, false, false, false, false, false, false, false, false] rfl rfl (by kernel_rfl) (fun _ _ _ h => by cases h.1) (Or.inl ⟨by rfl, ?_⟩) ?_ ?_
            rotate_left
            · intro w'
              go_simp
              with_reducible rfl
            rotate_left
            · simp only [Act.put, List.setIfInBounds_toArray, List.set_cons_zero, List.set_cons_succ]
              rfl
            refine take_ (i := 22) (N := some 183) (v := ?_) (a' := ?_) #[true, true, true, true, true, true, true, true, true, true, true, true, true, true, true, true, true, true, true, true, true, true, true, false, false, false, false, false, false, false, false, false, false, false] rfl rfl (by kernel_rfl) (fun _ _ _ h => by cases h.1) (Or.inl ⟨by rfl, ?_⟩) hS ?_ ?_
            rotate_left
            · intro w' hb
              have s0 := hb.cell m3
              go_simp
              with_reducible rfl
            rotate_left
            · simp only [Act.put, List.setIfInBounds_toArray, List.set_cons_zero, List.set_cons_succ]
              rfl
            refine pure_ (i := 23) (N := some 184) (v := ?_) (a' := ?_) #[true, true, true, true, true, true, true, true, true, true, true, true, true, true, true, true, true, true, true, true, true, true, true, true, false, false, false, false, false, false, false, false, false, false] rfl rfl (by kernel_rfl) (fun _ _ _ h => by cases h.1) (Or.inl ⟨by rfl, ?_⟩) ?_ ?_
            rotate_left
            · intro w'
              go_simp
              with_reducible rfl
            rotate_left
            · simp only [Act.put, List.setIfInBounds_toArray, List.set_cons_zero, List.set_cons_succ]
              rfl
            refine pure_ (i := 24) (N := some 185) (v := ?_) (a' := ?_) #[true, true, true, true, true, true, true, true, true, true, true, true, true, true, true, true, true, true, true, true, true, true, true, true, true, false, false, false, false, false, false, false, false, false] rfl rfl (by kernel_rfl) (fun _ _ _ h => by cases h.1) (Or.inl ⟨by rfl, ?_⟩) ?_ ?_
            rotate_left
            · intro w'
              go_simp
              with_reducible rfl
            rotate_left
            · simp only [Act.put, List.setIfInBounds_toArray, List.set_cons_zero, List.set_cons_succ]
              rfl
            refine take_ (i := 25) (N := some 186) (v := ?_) (a' := ?_) #[true, true, true, true, true, true, true, true, true, true, true, true, true, true, true, true, true, true, true, true, true, true, true, true, true, true, false, false, false, false, false, false, false, false] rfl rfl (by kernel_rfl) (fun _ _ _ h => by cases h.1) (Or.inl ⟨by rfl, ?_⟩) hS ?_ ?_
            rotate_left
            · intro w' hb
              have s0 := hb.cell z2
              go_simp
              with_reducible rfl
            rotate_left
            · simp only [Act.put, List.setIfInBounds_toArray, List.set_cons_zero, List.set_cons_succ]
              rfl
            refine pure_ (i := 26) (N := some 187) (v := ?_) (a' := ?_) #[true, true, true, true, true, true, true, true, true, true, true, true, true, true, true, true, true, true, true, true, true, true, true, true, true, true, true, false, false, false, false, false, false, false] rfl rfl (by kernel_rfl) (fun _ _ _ h => by cases h.1) (Or.inl ⟨by rfl, ?_⟩) ?_ ?_
            rotate_left
            · intro w'
              go_simp
              with_reducible rfl
            rotate_left
            · simp only [Act.put, List.setIfInBounds_toArray, List.set_cons_zero, List.set_cons_succ]
              rfl
            refine take_ (i := 27) (N := some 188) (v := ?_) (a' := ?_) #[true, true, true, true, true, true, true, true, true, true, true, true, true, true, true, true, true, true, true, true, true, true, true, true, true, true, true, true, false, false, false, false, false, false] rfl rfl (by kernel_rfl) (fun _ _ _ h => by cases h.1) (Or.inl ⟨by rfl, ?_⟩) hS ?_ ?_
            rotate_left
            · intro w' hb
              have s0 := hb.cell z2
              go_simp
              with_reducible rfl
            rotate_left
            · simp only [Act.put, List.setIfInBounds_toArray, List.set_cons_zero, List.set_cons_succ]
              rfl
            refine pure_ (i := 28) (N := some 189) (v := ?_) (a' := ?_) #[true, true, true, true, true, true, true, true, true, true, true, true, true, true, true, true, true, true, true, true, true, true, true, true, true, true, true, true, true, false, false, false, false, false] rfl rfl (by kernel_rfl) (fun _ _ _ h => by cases h.1) (Or.inl ⟨by rfl, ?_⟩) ?_ ?_
            rotate_left
            · intro w'
              go_simp
              with_reducible rfl
            rotate_left
            · simp only [Act.put, List.setIfInBounds_toArray, List.set_cons_zero, List.set_cons_succ]
              rfl
            refine pure_ (i := 29) (N := some 190) (v := ?_) (a' := ?_) #[true, true, true, true, true, true, true, true, true, true, true, true, true, true, true, true, true, true, true, true, true, true, true, true, true, true, true, true, true, true, false, false, false, false] rfl rfl (by kernel_rfl) (fun _ _ _ h => by cases h.1) (Or.inl ⟨by rfl, ?_⟩) ?_ ?_
            rotate_left
            · intro w'
              go_simp
              with_reducible rfl
            rotate_left
            · simp only [Act.put, List.setIfInBounds_toArray, List.set_cons_zero, List.set_cons_succ]
              rfl
            refine take_ (i := 30) (N := some 191) (v := ?_) (a' := ?_) #[true, true, true, true, true, true, true, true, true, true, true, true, true, true, true, true, true, true, true, true, true, true, true, true, true, true, true, true, true, true, true, false, false, false] rfl rfl (by kernel_rfl) (fun _ _ _ h => by cases h.1) (Or.inl ⟨by rfl, ?_⟩) hS ?_ ?_
            rotate_left
            · intro w' hb
              have s0 := hb.cell n3
              go_simp
              with_reducible rfl
            rotate_left
            · simp only [Act.put, List.setIfInBounds_toArray, List.set_cons_zero, List.set_cons_succ]
              rfl
            refine pure_ (i := 31) (N := some 192) (v := ?_) (a' := ?_) #[true, true, true, true, true, true, true, true, true, true, true, true, true, true, true, true, true, true, true, true, true, true, true, true, true, true, true, true, true, true, true, true, false, false] rfl rfl (by kernel_rfl) (fun _ _ _ h => by cases h.1) (Or.inl ⟨by rfl, ?_⟩) ?_ ?_
            rotate_left
            · intro w'
              go_simp
              with_reducible rfl
            rotate_left
            · simp only [Act.put, List.setIfInBounds_toArray, List.set_cons_zero, List.set_cons_succ]
              rfl
            refine one_ (i := 32) (N := some 193) #[true, true, true, true, true, true, true, true, true, true, true, true, true, true, true, true, true, true, true, true, true, true, true, true, true, true, true, true, true, true, true, true, true, false] rfl rfl (by kernel_rfl) (by simp) (fun K hK => ?_)
            go_simp
            refine (meet_calls _ _ _ _ _).mono ?_
            rintro e w2 ⟨rfl, rfl⟩
            refine hK.out _ _ hS (fun _ => ?_)
            clear hK K
            rw [← HBM.out]
            refine pure_ (i := 33) (N := some 194) (v := ?_) (a' := ?_) #[true, true, true, true, true, true, true, true, true, true, true, true, true, true, true, true, true, true, true, true, true, true, true, true, true, true, true, true, true, true, true, true, true, true] rfl rfl (by kernel_rfl) (fun _ _ _ h => by cases h.1) (Or.inl ⟨by rfl, ?_⟩) ?_ ?_
            rotate_left
            · intro w'
              go_simp
              with_reducible rfl
            rotate_left
            · simp only [Act.put, List.setIfInBounds_toArray, List.set_cons_zero, List.set_cons_succ]
              rfl
            refine done_ (by kernel_rfl) ?_
            exact ⟨rfl, (), by simp only [putAll, Act.put, List.setIfInBounds_toArray, List.set_cons_zero, List.set_cons_succ], hS⟩
          rintro - V3 hSd3
          have HS3 := Lib.hid (show Sd W V3 from ⟨HSV.out.1.trans (hSd3.1.mono HSV.out.1.size), HSV.out.2.trans hSd3.2⟩)
          have HC2V3 := Lib.hid ((hSd3.1.block _ hltV).trans HC2V.out)
          have HCV3 := Lib.hid ((hSd3.1.block _ hltV0).trans HCV.out)
          have HNV3 := Lib.hid ((hSd3.1.block _ hltVN).trans HNV.out)
          have hc2 := blk_cell HC2V3.out 0
          have hf2 := blk_frozen HC2V3.out 0
          clear hSd3 k1 k2 k3 k4 g8 p0 q0 y2 z2 m0 m3 n0 n3
          simp only [putAll, Act.put, List.setIfInBounds_toArray, List.set_cons_zero, List.set_cons_succ]
          cases bm
          · gi_wp2
            exact ⟨HS3.out.2, HNV3.out.trans HNb.out.symm, ⟨⟨⟨HCV3.out, HC2V3.out⟩, HNV3.out⟩, HB.out.trans (HS3.out.1.mono HB.out.size)⟩, by rw [List.all_append, HA.out]; simp [hpr.out, ← HBM.out]⟩
          · gi_wp2
            exact ⟨HS3.out.2.trans (KeepsOthers.setCell _ _ _), ⟨blk_set HC2V3.out 0 (.bool false), below_set (HB.out.trans (HS3.out.1.mono HB.out.size)) (by omega)⟩, rfl, by rw [List.all_append]; simp [hpr.out, Hc0.out, ← HBM.out]⟩
        · have e0 : (p.f0 == q.f0) = false := by simpa using c0'
          have Hc0 := Lib.hid c0'
          clear c0'
          refine region_round (S := Sd V2) (N := 34) (σ := Unit) (ds := []) (fun _ => [(161, .pointer (some ⟨w.heap.size, 8, none⟩)), (162, .slice (some ad8) C.f8.length c8), (163, .pointer (some ⟨cp, 0, none⟩)), (164, .int .i64 ps), (165, .pointer (some (ad8.add (ps * 3)))), (166, .pointer (some (ad8.add (ps * 3)))), (167, .int .i64 p.f0), (168, .pointer (some ⟨w.heap.size, 8, none⟩)), (169, .slice (some ad8) C.f8.length c8), (170, .pointer (some ⟨cq, 0, none⟩)), (171, .int .i64 pt), (172, .pointer (some (ad8.add (pt * 3)))), (173, .pointer (some (ad8.add (pt * 3)))), (174, .int .i64 q.f0), (175, .bool false), (176, .bool false), (177, undef), (178, undef), (179, undef), (180, undef), (181, undef), (182, undef), (183, undef), (184, undef), (185, undef), (186, undef), (187, undef), (188, undef), (189, undef), (190, undef), (191, undef), (192, undef), (193, undef), (194, .bool false)]) (fun _ w' => Sd V2 w') #[false, false, false, false, false, false, false, false, false, false, false, false, false, false, false, false, false, false, false, false, false, false, false, false, false, false, false, false, false, false, false, false, false, false] (Sd.drew0 V2) (by kernel_rfl) (by kernel_rfl) rfl rfl ?_ ?_
          · have hS := Sd.drew0 V2
            generalize V2.drew = Wd at hS ⊢
            refine pure_ (i := 0) (N := some 161) (v := ?_) (a' := ?_) #[true, false, false, false, false, false, false, false, false, false, false, false, false, false, false, false, false, false, false, false, false, false, false, false, false, false, false, false, false, false, false, false, false, false] rfl rfl (by kernel_rfl) (fun _ _ _ h => by cases h.1) (Or.inl ⟨by rfl, ?_⟩) ?_ ?_
            rotate_left
            · intro w'
              go_simp
              with_reducible rfl
            rotate_left
            · simp only [Act.put, List.setIfInBounds_toArray, List.set_cons_zero, List.set_cons_succ]
              rfl
            refine take_ (i := 1) (N := some 162) (v := ?_) (a' := ?_) #[true, true, false, false, false, false, false, false, false, false, false, false, false, false, false, false, false, false, false, false, false, false, false, false, false, false, false, false, false, false, false, false, false, false] rfl rfl (by kernel_rfl) (fun _ _ _ h => by cases h.1) (Or.inl ⟨by rfl, ?_⟩) hS ?_ ?_
            rotate_left
            · intro w' hb
              have s0 := hb.cell g8
              go_simp
              with_reducible rfl
            rotate_left
            · simp only [Act.put, List.setIfInBounds_toArray, List.set_cons_zero, List.set_cons_succ]
              rfl
            refine pure_ (i := 2) (N := some 163) (v := ?_) (a' := ?_) #[true, true, true, false, false, false, false, false, false, false, false, false, false, false, false, false, false, false, false, false, false, false, false, false, false, false, false, false, false, false, false, false, false, false] rfl rfl (by kernel_rfl) (fun _ _ _ h => by cases h.1) (Or.inl ⟨by rfl, ?_⟩) ?_ ?_
            rotate_left
            · intro w'
              go_simp
              with_reducible rfl
            rotate_left
            · simp only [Act.put, List.setIfInBounds_toArray, List.set_cons_zero, List.set_cons_succ]
              rfl
            refine take_ (i := 3) (N := some 164) (v := ?_) (a' := ?_) #[true, true, true, true, false, false, false, false, false, false, false, false, false, false, false, false, false, false, false, false, false, false, false, false, false, false, false, false, false, false, false, false, false, false] rfl rfl (by kernel_rfl) (fun _ _ _ h => by cases h.1) (Or.inl ⟨by rfl, ?_⟩) hS ?_ ?_
            rotate_left
            · intro w' hb
              have s0 := hb.cell m0
              go_simp
              with_reducible rfl
            rotate_left
            · simp only [Act.put, List.setIfInBounds_toArray, List.set_cons_zero, List.set_cons_succ]
              rfl
            refine pure_ (i := 4) (N := some 165) (v := ?_) (a' := ?_) #[true, true, true, true, true, false, false, false, false, false, false, false, false, false, false, false, false, false, false, false, false, false, false, false, false, false, false, false, false, false, false, false, false, false] rfl rfl (by kernel_rfl) (fun _ _ _ h => by cases h.1) (Or.inl ⟨by rfl, ?_⟩) ?_ ?_
            rotate_left
            · intro w'
              go_simp
              with_reducible rfl
            rotate_left
            · simp only [Act.put, List.setIfInBounds_toArray, List.set_cons_zero, List.set_cons_succ]
              rfl
            refine pure_ (i := 5) (N := some 166) (v := ?_) (a' := ?_) #[true, true, true, true, true, true, false, false, false, false, false, false, false, false, false, false, false, false, false, false, false, false, false, false, false, false, false, false, false, false, false, false, false, false] rfl rfl (by kernel_rfl) (fun _ _ _ h => by cases h.1) (Or.inl ⟨by rfl, ?_⟩) ?_ ?_
            rotate_left
            · intro w'
              go_simp
              with_reducible rfl
            rotate_left
            · simp only [Act.put, List.setIfInBounds_toArray, List.set_cons_zero, List.set_cons_succ]
              rfl
            refine take_ (i := 6) (N := some 167) (v := ?_) (a' := ?_) #[true, true, true, true, true, true, true, false, false, false, false, false, false, false, false, false, false, false, false, false, false, false, false, false, false, false, false, false, false, false, false, false, false, false] rfl rfl (by kernel_rfl) (fun _ _ _ h => by cases h.1) (Or.inl ⟨by rfl, ?_⟩) hS ?_ ?_
            rotate_left
            · intro w' hb
              have s0 := hb.cell p0
              go_simp
              with_reducible rfl
            rotate_left
            · simp only [Act.put, List.setIfInBounds_toArray, List.set_cons_zero, List.set_cons_succ]
              rfl
            refine pure_ (i := 7) (N := some 168) (v := ?_) (a' := ?_) #[true, true, true, true, true, true, true, true, false, false, false, false, false, false, false, false, false, false, false, false, false, false, false, false, false, false, false, false, false, false, false, false, false, false] rfl rfl (by kernel_rfl) (fun _ _ _ h => by cases h.1) (Or.inl ⟨by rfl, ?_⟩) ?_ ?_
            rotate_left
            · intro w'
              go_simp
              with_reducible rfl
            rotate_left
            · simp only [Act.put, List.setIfInBounds_toArray, List.set_cons_zero, List.set_cons_succ]
              rfl
            refine take_ (i := 8) (N := some 169) (v := ?_) (a' := ?_) #[true, true, true, true, true, true, true, true, true, false, false, false, false, false, false, false, false, false, false, false, false, false, false, false, false, false, false, false, false, false, false, false, false, false] rfl rfl (by kernel_rfl) (fun _ _ _ h => by cases h.1) (Or.inl ⟨by rfl, ?_⟩) hS ?_ ?_
            rotate_left
            · intro w' hb
              have s0 := hb.cell g8
              go_simp
              with_reducible rfl
            rotate_left
            · simp only [Act.put, List.setIfInBounds_toArray, List.set_cons_zero, List.set_cons_succ]
              rfl
            refine pure_ (i := 9) (N := some 170) (v := ?_) (a' := ?_) #[true, true, true, true, true, true, true, true, true, true, false, false, false, false, false, false, false, false, false, false, false, false, false, false, false, false, false, false, false, false, false, false, false, false] rfl rfl (by kernel_rfl) (fun _ _ _ h => by cases h.1) (Or.inl ⟨by rfl, ?_⟩) ?_ ?_
            rotate_left
            · intro w'
              go_simp
              with_reducible rfl
            rotate_left
            · simp only [Act.put, List.setIfInBounds_toArray, List.set_cons_zero, List.set_cons_succ]
              rfl
            refine take_ (i := 10) (N := some 171) (v := ?_) (a' := ?_) #[true, true, true, true, true, true, true, true, true, true, true, false, false, false, false, false, false, false, false, false, false, false, false, false, false, false, false, false, false, false, false, false, false, false] rfl rfl (by kernel_rfl) (fun _ _ _ h => by cases h.1) (Or.inl ⟨by rfl, ?_⟩) hS ?_ ?_
            rotate_left
            · intro w' hb
              have s0 := hb.cell n0
              go_simp
              with_reducible rfl
            rotate_left
            · simp only [Act.put, List.setIfInBounds_toArray, List.set_cons_zero, List.set_cons_succ]
              rfl
            refine pure_ (i := 11) (N := some 172) (v := ?_) (a' := ?_) #[true, true, true, true, true, true, true, true, true, true, true, true, false, false, false, false, false, false, false, false, false, false, false, false, false, false, false, false, false, false, false, false, false, false] rfl rfl (by kernel_rfl) (fun _ _ _ h => by cases h.1) (Or.inl ⟨by rfl, ?_⟩) ?_ ?_
            rotate_left
            · intro w'
              go_simp
              with_reducible rfl
            rotate_left
            · simp only [Act.put, List.setIfInBounds_toArray, List.set_cons_zero, List.set_cons_succ]
              rfl
            refine pure_ (i := 12) (N := some 173) (v := ?_) (a' := ?_) #[true, true, true, true, true, true, true, true, true, true, true, true, true, false, false, false, false, false, false, false, false, false, false, false, false, false, false, false, false, false, false, false, false, false] rfl rfl (by kernel_rfl) (fun _ _ _ h => by cases h.1) (Or.inl ⟨by rfl, ?_⟩) ?_ ?_
            rotate_left
            · intro w'
              go_simp
              with_reducible rfl
            rotate_left
            · simp only [Act.put, List.setIfInBounds_toArray, List.set_cons_zero, List.set_cons_succ]
              rfl
            refine take_ (i := 13) (N := some 174) (v := ?_) (a' := ?_) #[true, true, true, true, true, true, true, true, true, true, true, true, true, true, false, false, false, false, false, false, false, false, false, false, false, false, false, false, false, false, false, false, false, false] rfl rfl (by kernel_rfl) (fun _ _ _ h => by cases h.1) (Or.inl ⟨by rfl, ?_⟩) hS ?_ ?_
            rotate_left
            · intro w' hb
              have s0 := hb.cell q0
              go_simp
              with_reducible rfl
            rotate_left
            · simp only [Act.put, List.setIfInBounds_toArray, List.set_cons_zero, List.set_cons_succ]
              rfl
            refine pure_ (i := 14) (N := some 175) (v := ?_) (a' := ?_) #[true, true, true, true, true, true, true, true, true, true, true, true, true, true, true, false, false, false, false, false, false, false, false, false, false, false, false, false, false, false, false, false, false, false] rfl rfl (by kernel_rfl) (fun _ _ _ h => by cases h.1) (Or.inl ⟨by rfl, ?_⟩) ?_ ?_
            rotate_left
            · intro w'
              go_simp
              with_reducible rfl
            rotate_left
            · simp only [Act.put, List.setIfInBounds_toArray, List.set_cons_zero, List.set_cons_succ]
              rfl
            refine pure_ (i := 15) (N := some 176) (v := ?_) (a' := ?_) #[true, true, true, true, true, true, true, true, true, true, true, true, true, true, true, true, false, false, false, false, false, false, false, false, false, false, false, false, false, false, false, false, false, false] rfl rfl (by kernel_rfl) (fun _ _ _ h => by cases h.1) (Or.inl ⟨by rfl, ?_⟩) ?_ ?_
            rotate_left
            · intro w'
              go_simp
              with_reducible rfl
            rotate_left
            · simp only [Act.put, List.setIfInBounds_toArray, List.set_cons_zero, List.set_cons_succ]
              rfl
            refine pure_ (i := 16) (N := some 177) (v := undef) (a' := ?_) #[true, true, true, true, true, true, true, true, true, true, true, true, true, true, true, true, true, false, false, false, false, false, false, false, false, false, false, false, false, false, false, false, false, false] rfl rfl (by kernel_rfl) (fun _ _ _ h => by cases h.1) (Or.inr ⟨by rfl, rfl⟩) ?_ ?_
            rotate_left
            · simp only [Act.put, List.setIfInBounds_toArray, List.set_cons_zero, List.set_cons_succ]
              rfl
            refine pure_ (i := 17) (N := some 178) (v := undef) (a' := ?_) #[true, true, true, true, true, true, true, true, true, true, true, true, true, true, true, true, true, true, false, false, false, false, false, false, false, false, false, false, false, false, false, false, false, false] rfl rfl (by kernel_rfl) (fun _ _ _ h => by cases h.1) (Or.inr ⟨by rfl, rfl⟩) ?_ ?_
            rotate_left
            · simp only [Act.put, List.setIfInBounds_toArray, List.set_cons_zero, List.set_cons_succ]
              rfl
            refine pure_ (i := 18) (N := some 179) (v := undef) (a' := ?_) #[true, true, true, true, true, true, true, true, true, true, true, true, true, true, true, true, true, true, true, false, false, false, false, false, false, false, false, false, false, false, false, false, false, false] rfl rfl (by kernel_rfl) (fun _ _ _ h => by cases h.1) (Or.inr ⟨by rfl, rfl⟩) ?_ ?_
            rotate_left
            · simp only [Act.put, List.setIfInBounds_toArray, List.set_cons_zero, List.set_cons_succ]
              rfl
            refine pure_ (i := 19) (N := some 180) (v := undef) (a' := ?_) #[true, true, true, true, true, true, true, true, true, true, true, true, true, true, true, true, true, true, true, true, false, false, false, false, false, false, false, false, false, false, false, false, false, false] rfl rfl (by kernel_rfl) (fun _ _ _ h => by cases h.1) (Or.inr ⟨by rfl, rfl⟩) ?_ ?_
            rotate_left
            · simp only [Act.put, List.setIfInBounds_toArray, List.set_cons_zero, List.set_cons_succ]
              rfl
            refine pure_ (i := 20) (N := some 181) (v := undef) (a' := ?_) #[true, true, true, true, true, true, true, true, true, true, true, true, true, true, true, true, true, true, true, true, true, false, false, false, false, false, false, false, false, false, false, false, false, false] rfl rfl (by kernel_rfl) (fun _ _ _ h => by cases h.1) (Or.inr ⟨by rfl, rfl⟩) ?_ ?_
            rotate_left
            · simp only [Act.put, List.setIfInBounds_toArray, List.set_cons_zero, List.set_cons_succ]
              rfl
            refine pure_ (i := 21) (N := some 182) (v := undef) (a' := ?_) #[true, true, true, true, true, true, true, true, true, true, true, true, true, true, true, true, true, true, true, true, true, true, false, false, false, false, false, false, false, false, false, false, false, false] rfl rfl (by kernel_rfl) (fun _ _ _ h => by cases h.1) (Or.inr ⟨by rfl, rfl⟩) ?_ ?_
            rotate_left
            · simp only [Act.put, List.setIfInBounds_toArray, List.set_cons_zero, List.set_cons_succ]
              rfl
            refine pure_ (i := 22) (N := some 183) (v := undef) (a' := ?_) #[true, true, true, true, true, true, true, true, true, true, true, true, true, true, true, true, true, true, true, true, true, true, true, false, false, false, false, false, false, false, false, false, false, false] rfl rfl (by kernel_rfl) (fun _ _ _ h => by cases h.1) (Or.inr ⟨by rfl, rfl⟩) ?_ ?_
            rotate_left
            · simp only [Act.put, List.setIfInBounds_toArray, List.set_cons_zero, List.set_cons_succ]
              rfl
            refine pure_ (i := 23) (N := some 184) (v := undef) (a' := ?_) #[true, true, true, true, true, true, true, true, true, true, true, true, true, true, true, true, true, true, true, true, true, true, true, true, false, false, false, false, false, false, false, false, false, false] rfl rfl (by kernel_rfl) (fun _ _ _ h => by cases h.1) (Or.inr ⟨by rfl, rfl⟩) ?_ ?_
            rotate_left
            · simp only [Act.put, List.setIfInBounds_toArray, List.set_cons_zero, List.set_cons_succ]
              rfl
            refine pure_ (i := 24) (N := some 185) (v := undef) (a' := ?_) #[true, true, true, true, true, true, true, true, true, true, true, true, true, true, true, true, true, true, true, true, true, true, true, true, true, false, false, false, false, false, false, false, false, false] rfl rfl (by kernel_rfl) (fun _ _ _ h => by cases h.1) (Or.inr ⟨by rfl, rfl⟩) ?_ ?_
            rotate_left
            · simp only [Act.put, List.setIfInBounds_toArray, List.set_cons_zero, List.set_cons_succ]
              rfl
            refine pure_ (i := 25) (N := some 186) (v := undef) (a' := ?_) #[true, true, true, true, true, true, true, true, true, true, true, true, true, true, true, true, true, true, true, true, true, true, true, true, true, true, false, false, false, false, false, false, false, false] rfl rfl (by kernel_rfl) (fun _ _ _ h => by cases h.1) (Or.inr ⟨by rfl, rfl⟩) ?_ ?_
            rotate_left
            · simp only [Act.put, List.setIfInBounds_toArray, List.set_cons_zero, List.set_cons_succ]
              rfl
            refine pure_ (i := 26) (N := some 187) (v := undef) (a' := ?_) #[true, true, true, true, true, true, true, true, true, true, true, true, true, true, true, true, true, true, true, true, true, true, true, true, true, true, true, false, false, false, false, false, false, false] rfl rfl (by kernel_rfl) (fun _ _ _ h => by cases h.1) (Or.inr ⟨by rfl, rfl⟩) ?_ ?_
            rotate_left
            · simp only [Act.put, List.setIfInBounds_toArray, List.set_cons_zero, List.set_cons_succ]
              rfl
            refine pure_ (i := 27) (N := some 188) (v := undef) (a' := ?_) #[true, true, true, true, true, true, true, true, true, true, true, true, true, true, true, true, true, true, true, true, true, true, true, true, true, true, true, true, false, false, false, false, false, false] rfl rfl (by kernel_rfl) (fun _ _ _ h => by cases h.1) (Or.inr ⟨by rfl, rfl⟩) ?_ ?_
            rotate_left
            · simp only [Act.put, List.setIfInBounds_toArray, List.set_cons_zero, List.set_cons_succ]
              rfl
            refine pure_ (i := 28) (N := some 189) (v := undef) (a' := ?_) #[true, true, true, true, true, true, true, true, true, true, true, true, true, true, true, true, true, true, true, true, true, true, true, true, true, true, true, true, true, false, false, false, false, false] rfl rfl (by kernel_rfl) (fun _ _ _ h => by cases h.1) (Or.inr ⟨by rfl, rfl⟩) ?_ ?_
            rotate_left
            · simp only [Act.put, List.setIfInBounds_toArray, List.set_cons_zero, List.set_cons_succ]
              rfl
            refine pure_ (i := 29) (N := some 190) (v := undef) (a' := ?_) #[true, true, true, true, true, true, true, true, true, true, true, true, true, true, true, true, true, true, true, true, true, true, true, true, true, true, true, true, true, true, false, false, false, false] rfl rfl (by kernel_rfl) (fun _ _ _ h => by cases h.1) (Or.inr ⟨by rfl, rfl⟩) ?_ ?_
            rotate_left
            · simp only [Act.put, List.setIfInBounds_toArray, List.set_cons_zero, List.set_cons_succ]
              rfl
            refine pure_ (i := 30) (N := some 191) (v := undef) (a' := ?_) #[true, true, true, true, true, true, true, true, true, true, true, true, true, true, true, true, true, true, true, true, true, true, true, true, true, true, true, true, true, true, true, false, false, false] rfl rfl (by kernel_rfl) (fun _ _ _ h => by cases h.1) (Or.inr ⟨by rfl, rfl⟩) ?_ ?_
            rotate_left
            · simp only [Act.put, List.setIfInBounds_toArray, List.set_cons_zero, List.set_cons_succ]
              rfl
            refine pure_ (i := 31) (N := some 192) (v := undef) (a' := ?_) #[true, true, true, true, true, true, true, true, true, true, true, true, true, true, true, true, true, true, true, true, true, true, true, true, true, true, true, true, true, true, true, true, false, false] rfl rfl (by kernel_rfl) (fun _ _ _ h => by cases h.1) (Or.inr ⟨by rfl, rfl⟩) ?_ ?_
            rotate_left
            · simp only [Act.put, List.setIfInBounds_toArray, List.set_cons_zero, List.set_cons_succ]
              rfl
            refine pure_ (i := 32) (N := some 193) (v := undef) (a' := ?_) #[true, true, true, true, true, true, true, true, true, true, true, true, true, true, true, true, true, true, true, true, true, true, true, true, true, true, true, true, true, true, true, true, true, false] rfl rfl (by kernel_rfl) (fun _ _ _ h => by cases h.1) (Or.inr ⟨by rfl, rfl⟩) ?_ ?_
            rotate_left
            · simp only [Act.put, List.setIfInBounds_toArray, List.set_cons_zero, List.set_cons_succ]
              rfl
            refine pure_ (i := 33) (N := some 194) (v := ?_) (a' := ?_) #[true, true, true, true, true, true, true, true, true, true, true, true, true, true, true, true, true, true, true, true, true, true, true, true, true, true, true, true, true, true, true, true, true, true] rfl rfl (by kernel_rfl) (fun _ _ _ h => by cases h.1) (Or.inl ⟨by rfl, ?_⟩) ?_ ?_
            rotate_left
            · intro w'
              go_simp
              with_reducible rfl
            rotate_left
            · simp only [Act.put, List.setIfInBounds_toArray, List.set_cons_zero, List.set_cons_succ]
              rfl
            refine done_ (by kernel_rfl) ?_
            exact ⟨rfl, (), by simp only [putAll, Act.put, List.setIfInBounds_toArray, List.set_cons_zero, List.set_cons_succ], hS⟩
          rintro - V3 hSd3
          have HS3 := Lib.hid (show Sd W V3 from ⟨HSV.out.1.trans (hSd3.1.mono HSV.out.1.size), HSV.out.2.trans hSd3.2⟩)
          have HC2V3 := Lib.hid ((hSd3.1.block _ hltV).trans HC2V.out)
          have HCV3 := Lib.hid ((hSd3.1.block _ hltV0).trans HCV.out)
          have HNV3 := Lib.hid ((hSd3.1.block _ hltVN).trans HNV.out)
          clear hSd3 g8 p0 q0 y2 z2 m0 m3 n0 n3
          simp only [putAll, Act.put, List.setIfInBounds_toArray, List.set_cons_zero, List.set_cons_succ]
          gi_wp2
          exact ⟨HS3.out.2, HNV3.out.trans HNb.out.symm, ⟨⟨⟨HCV3.out, HC2V3.out⟩, HNV3.out⟩, HB.out.trans (HS3.out.1.mono HB.out.size)⟩, by rw [List.all_append, HA.out]; simp [hpr.out, Hc0.out]⟩
      case hdone =>
        rintro D xs W5 hD rfl ⟨⟨⟨⟨hC, hC2⟩, hN⟩, hB⟩, hA⟩ hK
        have hres : b = true := by rw [HBB.out, linksB, decide_eq_true h1, hAll.out, hA]; rfl
        subst hres
        have HC2 := Lib.hid hC2
        have HBz := Lib.hid hB
        have HKD := Lib.hid hK
        have hc2 := blk_cell hC2 0
        have hf2 := blk_frozen hC2 0
        clear hC hC2 hN hB hA hK
        go_wp2
        rw [Exit.noGoto_ret]
        refine leaves_marked (B := w.heap.size) [D] _ (Marked.one (by omega) (((KeepsOthers.setCell W5 _ _).same D _ HKD.out rfl))) (fun W' hW' => ?_)
        have hk := hW'.2 _ _ _ _ (blk_set HC2.out 0 (.bool true))
        have hc : W'.cell? ⟨w.heap.size + 1, 0, none⟩ = some (.bool true) := blk_cell hk 0
        exact ⟨.bool true, by simp [results, Try.f68, go_sem, hc], rfl, (below_set HBz.out (by omega)).trans hW'.1⟩
      case hstop =>
        rintro D c pre W5 hD hpre ⟨⟨hC2, hB⟩, rfl, hA⟩ hK
        have hres : b = false := by rw [HBB.out, linksB, prefix_all hpre hA]; simp
        subst hres
        have HC2 := Lib.hid hC2
        have HBz := Lib.hid hB
        have HKD := Lib.hid hK
        clear hC2 hB hA hK
        refine wpIn_wide.2 ?_
        go_wp2
        refine leaves_marked (B := w.heap.size) [D] _ (Marked.one (by omega) HKD.out) (fun W' hW' => ?_)
        have hk := hW'.2 _ _ _ _ HC2.out
        have hc : W'.cell? ⟨w.heap.size + 1, 0, none⟩ = some (.bool false) := blk_cell hk 0
        exact ⟨.bool false, by simp [results, Try.f68, go_sem, hc], rfl, HBz.out.trans hW'.1⟩
end Go.Proofs.Ytehbabkgaecoaaa
