/- The iterator 'free': which spans it hands out. -/
import Derived.RangeFuncNested
import Derived.RangeFuncBound
import Derived.RangeFuncCalls
import Derived.RangeFuncLeaves
import Derived.RangeFuncBox
import Derived.Shelf.Abstract
import Derived.Shelf.RegionOpen
import Derived.OwnWalkIn
import Derived.TacticsInMore
import Derived.LoopNIn
import Derived.LoopIn
import Derived.Test.YtnbcnkpcmjkglaaE
namespace Go.Proofs.Ytnbcnkpcmjkglaa
open Go.RowKit Go.Shelf Go.Proofs.Ytnbcnkpcmjkglaa.Px Go.Proofs.YtnbcnkpcmjkglaaW.PrintWords Go.Proofs.YtnbcnkpcmjkglaaW.PrintLast
attribute [local go_sem] Oper.semAt_some

theorem R_row {base : Nat} {ok : Nat → Prop} {v : Value} {l : List S30} {W : World} (h : Kd.R k30 30 W base ok v l) : ∃ A c, v = .slice A l.length c ∧ l.length ≤ c ∧ c ≤ 9223372036854775807 ∧ Kd.C k30 W A l.length l ∧ (l = [] ∨ ∃ g, A = some ⟨g, 0, none⟩ ∧ base ≤ g ∧ Row g l W) := by
  obtain ⟨A, c, rfl, hc, hC⟩ := Kd.R_reads h
  have hcap : c ≤ 9223372036854775807 := by
    obtain ⟨inner, ho⟩ := Kd.R_own h
    rcases ho.2 with ⟨hv, -⟩ | ⟨g, cap, cur, hv, -, -, -, hm, -⟩
    · injection hv with _ _ h3; omega
    · injection hv with _ _ h3; simp only [maxLen] at hm; omega
  refine ⟨A, c, rfl, hc, hcap, hC, ?_⟩
  rcases l with _ | ⟨x, l⟩
  · exact .inl rfl
  · obtain ⟨g, cap, hv, hb, hlt, cells, hcs⟩ := Kd.R_form h (by simp)
    injection hv with hA _ _
    subst hA
    refine .inr ⟨g, rfl, hb, hlt, fun i s hs => ?_, fun j => blk_frozen hcs j⟩
    obtain ⟨cs, -, hM, hcc, -⟩ := Kd.R_elem h z30 (i : Int) (by omega) (by have := (List.getElem?_eq_some_iff.1 hs).1; omega)
    rw [Int.toNat_natCast, List.getD_eq_getElem?_getD, hs] at hM
    rw [Int.toNat_natCast] at hcc
    obtain rfl := k30_openM hM
    exact ⟨hcc 0 _ rfl, hcc 1 _ rfl⟩
/-- Who calls writes its own box alone, and the row that lies in it. -/
def KpB (B : Nat) (W W' : World) : Prop :=
  W.heap.size ≤ W'.heap.size ∧ (∀ (k : Nat) (cs : Array Value) (t : TypeId) (fr : Nat × Nat), W.heap[k]? = some (.cells cs t fr) → k ≠ B → (∀ v, W.cell? ⟨B, 0, none⟩ = some v → v.ownBlock ≠ some k) → W'.heap[k]? = some (.cells cs t fr)) ∧
  ∀ v', W'.cell? ⟨B, 0, none⟩ = some v' → (∃ v, W.cell? ⟨B, 0, none⟩ = some v ∧ v'.ownBlock = v.ownBlock) ∨ ∀ k, v'.ownBlock = some k → W.heap.size ≤ k ∧ k < W'.heap.size
theorem KpB.trans {B : Nat} {X Y Z : World} (h : KpB B X Y) (k : KpB B Y Z) : KpB B X Z := by
  refine ⟨Nat.le_trans h.1 k.1, fun q cs t fr hc hB hv => ?_, fun v'' hv'' => ?_⟩
  · refine k.2.1 q cs t fr (h.2.1 q cs t fr hc hB hv) hB (fun v' hv' he => ?_)
    rcases h.2.2 v' hv' with ⟨v, hv0, e⟩ | hn
    · exact hv v hv0 (by rw [← e]; exact he)
    · have := (hn q he).1
      have := (Array.getElem?_eq_some_iff.1 hc).1
      omega
  · rcases k.2.2 v'' hv'' with ⟨v', hv', e⟩ | hn
    · rcases h.2.2 v' hv' with ⟨v, hv, e'⟩ | hn
      · exact .inl ⟨v, hv, e.trans e'⟩
      · exact .inr (fun q hq => ⟨(hn q (by rw [← e]; exact hq)).1, Nat.lt_of_lt_of_le (hn q (by rw [← e]; exact hq)).2 k.1⟩)
    · exact .inr (fun q hq => ⟨Nat.le_trans h.1 (hn q hq).1, (hn q hq).2⟩)
theorem KpB.put {B : Nat} {w : World} (hB : B < w.heap.size) (W : World) (l : Nat) (o o' : Obj) (hl : w.heap.size ≤ l) (h : W.heap[l]? = some o) (hc : o.isCells = false) (_ : o.isWalk = false) : KpB B W (W.putObj l o') := by
  have hg := grownBy_putObj' W l o'
  refine ⟨hg.size, fun k cs t fr hk _ _ => (hg.block k (Array.getElem?_eq_some_iff.1 hk).1 (fun e => by cases e; rw [h] at hk; cases hk; cases hc)).trans hk, fun v' hv' => .inl ⟨v', ?_, rfl⟩⟩
  rw [← hv']
  refine (World.cell?_of_block ?_).symm
  by_cases hs : B < W.heap.size
  · exact hg.block B hs (fun e => by cases e; omega)
  · have := (Array.getElem?_eq_some_iff.1 h).1
    omega
/-- The cell of a block that stays. -/
theorem KpB.cell {B : Nat} {W W' : World} (h : KpB B W W') {p : Addr} {u : Value} (hp : W.cell? p = some u) (hB : p.block ≠ B) (hv : ∀ v, W.cell? ⟨B, 0, none⟩ = some v → v.ownBlock ≠ some p.block) : W'.heap[p.block]? = W.heap[p.block]? := by
  obtain ⟨o, ho, hc⟩ := cells_of_cell hp
  cases o <;> try cases hc
  rename_i cs t fr
  rw [h.2.1 _ _ _ _ ho hB hv, ho]
theorem delf_nil (A : Option Addr) (c B : Nat) (limit : Int) (W : World) (hl : W.cell? ⟨B, 0, none⟩ = some (.int .i64 limit)) :
    Calls Try.prog 31 #[.slice A 0 c, .func (.func 32) #[] #[.pointer (some ⟨B, 0, none⟩)]] W fun e W' => e = .returned (.slice A 0 c) ∧ Below W.heap.size W W' := by
  have hi := idx_calls [] A c B limit W ⟨rfl, by simp, fun h => by simp at h⟩ hl
  go_enter Try.func31, Try.ntmps31
  go_wp2_with fail
  refine hi.mono ?_
  rintro e W1 ⟨⟨r, rfl, hr⟩, hb⟩
  rcases hr with ⟨rfl, -⟩ | ⟨k, hk, -⟩
  · have HB := Lib.hid hb
    clear hb
    go_wp2
    go_ret
    exact ⟨rfl, HB.out⟩
  · simp at hk
/-- What the iterator holds between two rounds. -/
structure IT (A2 : Option Addr) (g Bl B : Nat) (q : List S30) (limit : Int) (W : World) : Prop where
  row : q = [] ∨ (A2 = some ⟨g, 0, none⟩ ∧ Row g q W)
  lim : W.cell? ⟨Bl, 0, none⟩ = some (.int .i64 limit)
  no : ∀ v, W.cell? ⟨B, 0, none⟩ = some v → v.ownBlock ≠ some Bl ∧ v.ownBlock ≠ some g ∧ ∀ k, v.ownBlock = some k → k < W.heap.size
  gl : g < W.heap.size
  bl : B < W.heap.size
  nb : Bl ≠ B
  gb : g ≠ B
theorem IT.below {A2 : Option Addr} {g Bl B : Nat} {q : List S30} {limit : Int} {W W' : World} (h : IT A2 g Bl B q limit W) (hb : Below W.heap.size W W') : IT A2 g Bl B q limit W' := by
  refine ⟨h.row.imp id (fun ⟨e, r⟩ => ⟨e, r.mv (hb.block g h.gl)⟩), (hb.cell (World.block_lt_of_cell? W _ h.lim)).trans h.lim, fun v hv => ?_, Nat.lt_of_lt_of_le h.gl hb.size, Nat.lt_of_lt_of_le h.bl hb.size, h.nb, h.gb⟩
  obtain ⟨n1, n2, n3⟩ := h.no v (by rw [← hv]; exact (hb.cell (p := ⟨B, 0, none⟩) h.bl).symm)
  exact ⟨n1, n2, fun k hk => Nat.lt_of_lt_of_le (n3 k hk) hb.size⟩
theorem IT.kp {A2 : Option Addr} {g Bl B : Nat} {q : List S30} {limit : Int} {W W' : World} (h : IT A2 g Bl B q limit W) (hk : KpB B W W') : IT A2 g Bl B q limit W' := by
  have hbl := World.block_lt_of_cell? W _ h.lim
  refine ⟨?_, (World.cell?_of_block (hk.cell h.lim h.nb (fun v hv => (h.no v hv).1))).trans h.lim, fun v hv => ?_, Nat.lt_of_lt_of_le h.gl hk.1, Nat.lt_of_lt_of_le h.bl hk.1, h.nb, h.gb⟩
  · rcases h.row with e | ⟨e, r⟩
    · exact .inl e
    · rcases q with _ | ⟨s, q⟩
      · exact .inl rfl
      · exact .inr ⟨e, r.mv (hk.cell (r.c 0 s rfl).1 h.gb (fun v hv => (h.no v hv).2.1))⟩
  · rcases hk.2.2 v hv with ⟨u, hu, e⟩ | hn
    · obtain ⟨n1, n2, n3⟩ := h.no u hu
      rw [e]
      exact ⟨n1, n2, fun k hk' => Nat.lt_of_lt_of_le (n3 k hk') hk.1⟩
    · refine ⟨fun e => ?_, fun e => ?_, fun k hk' => (hn k hk').2⟩
      · have := (hn _ e).1; dsimp only at hbl; omega
      · have := (hn _ e).1; have := h.gl; omega
def toP (s : S30) : Int × Int := (s.f0, s.f1)
/-- A span within a limit. -/
abbrev PF (limit : Int) : Type := { x : Int × Int // 0 ≤ x.1 ∧ x.1 < x.2 ∧ x.2 ≤ limit }
def FreeS (l : List S30) (limit : Int) (ys : List (PF limit)) : Prop := Runs (fun p => ¬ InS (l.map toP) p) limit 0 (ys.map Subtype.val)
def FreeP (l : List S30) (limit : Int) (pre : List (PF limit)) : Prop := ∃ F, Runs (fun p => ¬ InS (l.map toP) p) limit 0 F ∧ pre.map Subtype.val <+: F
theorem keep_toP (limit : Int) (l : List S30) : (l.filter (keepB limit)).map toP = (l.map toP).filter (keepS limit) := by
  rw [List.filter_map]
  rfl
theorem free_runs' {l m : List S30} {limit : Int} (hm : m.Perm (l.filter (keepB limit))) (hs : m.Pairwise (fun s t => s.f0 ≤ t.f0)) : Runs (fun p => ¬ InS (l.map toP) p) limit 0 (goF limit 0 (m.map toP)) :=
  free_runs (by rw [← keep_toP]; exact hm.map toP) (by rw [List.pairwise_map]; exact hs)
set_option maxRecDepth 100000 in
set_option maxHeartbeats 4000000 in
theorem free1_in (m : Nat) (hm : 1 ≤ m) (l0 Ba Bl B : Nat) (l : List S30) (A : Option Addr) (c : Nat) (limit : Int) (hby : l.length * 16 ≤ 140737488355328)
    (J Jx : List (PF limit) → World → Prop) (hJ : ∀ s X Y, J s X → Below X.heap.size X Y → J s Y)
    (hY : ∀ pre (x : PF limit) W, J pre W → pre.length < l.length + 1 → YieldAt Fence.wide (m - 1) Try.prog l0 #[.agg #[.int .i64 x.1.1, .int .i64 x.1.2]] W fun e W' =>
      (e = .returned (.bool true) ∧ J (pre ++ [x]) W' ∧ KpB B W W') ∨ (e = .returned (.bool false) ∧ Jx (pre ++ [x]) W'))
    (W : World) (hca : W.cell? ⟨Ba, 0, none⟩ = some (.slice A l.length c)) (hC : Kd.C k30 W A l.length l) (hcl : W.cell? ⟨Bl, 0, none⟩ = some (.int .i64 limit)) (hBl : Bl ≠ B) (hB : ∀ v, W.cell? ⟨B, 0, none⟩ = some v → v.ownBlock = none) (hBlt : B < W.heap.size) (h0 : J [] W) :
    CallsIn Fence.wide m Try.prog 30 #[.func (.yield l0) #[] #[], .pointer (some ⟨Ba, 0, none⟩), .pointer (some ⟨Bl, 0, none⟩)] W fun e W' => (∃ v, e = .returned v) ∧
      ((∃ ys, FreeS l limit ys ∧ J ys W') ∨ (∃ pre, FreeP l limit pre ∧ Jx pre W')) := by
  have HC := Lib.hid hC
  have HCL := Lib.hid hcl
  have H0 := Lib.hid h0
  have HBB := Lib.hid hB
  clear hC hcl h0 hB
  refine callsIn_of_wp Try.func30 rfl trivial ?_ rfl
  simp only [Try.ntmps30, List.size_toArray, List.length_cons, List.length_nil, Nat.reduceAdd, Nat.reduceSub, Array.replicate_succ, Array.replicate_zero, List.push_toArray, List.append_toArray, List.nil_append, List.cons_append]
  gi_wp2_with fail
  refine ⟨trivial, (callsIn_wide.2 (clone_R l A c W HC.out hby)).mono ?_⟩
  rintro e W1 ⟨⟨v, rfl, hr⟩, hb1⟩
  obtain ⟨A1, c1, rfl, hc1, hcm, hC1, hrow⟩ := R_row hr
  have HB1 := Lib.hid hb1
  have HCL1 := Lib.hid ((hb1.cell (World.block_lt_of_cell? W _ HCL.out)).trans HCL.out)
  clear hr hb1
  gi_wp2_with fail
  have hdel : Calls Try.prog 31 #[.slice A1 l.length c1, .func (.func 32) #[] #[.pointer (some ⟨Bl, 0, none⟩)]] W1 fun e W' => (∃ m c' A', e = .returned (.slice A' m c') ∧ m = (l.filter (keepB limit)).length ∧ (l.filter (keepB limit) = [] ∨ ∃ g, A' = some ⟨g, 0, none⟩ ∧ W.heap.size ≤ g ∧ Row g (l.filter (keepB limit)) W')) ∧ Below W.heap.size W W' := by
    rcases hrow with rfl | ⟨g, rfl, hg, hR⟩
    · refine (delf_nil A1 c1 Bl limit W1 HCL1.out).mono ?_
      rintro e W' ⟨rfl, hb⟩
      exact ⟨⟨_, _, _, rfl, rfl, .inl rfl⟩, HB1.out.trans (hb.mono HB1.out.size)⟩
    · refine (delf_calls l g c1 Bl limit W1 hR hc1 hcm (by have := World.block_lt_of_cell? W _ HCL.out; dsimp only at this; omega) HCL1.out).mono ?_
      rintro e W' ⟨rfl, hR', -, hb⟩
      exact ⟨⟨_, _, _, rfl, rfl, .inr ⟨g, rfl, hg, hR'⟩⟩, HB1.out.trans (hb _ hg)⟩
  clear hC1 hrow
  refine ⟨trivial, (callsIn_wide.2 hdel).mono ?_⟩
  rintro e W2 ⟨⟨n2, c2, A2, rfl, rfl, hrow⟩, hb2⟩
  have HB2 := Lib.hid hb2
  clear hdel hb2
  gi_wp2_with fail
  have hsort : Calls Try.prog 33 #[.slice A2 (l.filter (keepB limit)).length c2, .func (.func 34) #[] #[]] W2 fun e W' => e = .returned (.tuple #[]) ∧ (∃ q : List S30, q.Perm (l.filter (keepB limit)) ∧ q.Pairwise (fun s t => s.f0 ≤ t.f0) ∧ (q = [] ∨ ∃ g, A2 = some ⟨g, 0, none⟩ ∧ W.heap.size ≤ g ∧ Row g q W')) ∧ Below W.heap.size W W' := by
    rcases hrow with h | ⟨g, rfl, hg, hR⟩
    · rw [h]
      refine (AnyF.slices_SortFunc_none laysSort A2 c2 (.func (.func 34) #[] #[]) W2).mono ?_
      rintro e W' ⟨rfl, rfl⟩
      exact ⟨rfl, ⟨[], List.Perm.refl _, List.Pairwise.nil, .inl rfl⟩, HB2.out⟩
    · refine (sort_calls g c2 _ W2 hR (by have := List.length_filter_le (keepB limit) l; omega)).mono ?_
      rintro e W' ⟨rfl, ⟨q, hp, hs, hR'⟩, -, hb⟩
      exact ⟨rfl, ⟨q, hp, hs, .inr ⟨g, rfl, hg, hR'⟩⟩, HB2.out.trans (hb _ hg)⟩
  clear hrow
  refine ⟨trivial, (callsIn_wide.2 hsort).mono ?_⟩
  rintro e W3 ⟨rfl, ⟨q, hqp, hqs, hrow⟩, hb3⟩
  have HB3 := Lib.hid hb3
  have HQ := Lib.hid (free_runs' hqp hqs)
  have hql : (l.filter (keepB limit)).length = q.length := hqp.length_eq.symm
  have HQL := Lib.hid (show q.length ≤ l.length by rw [← hql]; exact List.length_filter_le _ _)
  have HQK := Lib.hid (show ∀ s ∈ q, s.f0 < limit by
    intro s hs
    have := (List.mem_filter.1 (hqp.mem_iff.1 hs)).2
    unfold keepB at this
    simp only [Bool.not_eq_true', Bool.or_eq_false_iff, decide_eq_false_iff_not] at this
    omega)
  rw [hql]
  clear hsort hb3 hql hqp hqs
  gi_wp2_with fail
  have hBllt : Bl < W.heap.size := World.block_lt_of_cell? W _ HCL.out
  obtain ⟨g, hgB, hglt, hgr⟩ : ∃ g, g ≠ B ∧ g < W3.heap.size ∧ (q = [] ∨ (A2 = some ⟨g, 0, none⟩ ∧ Row g q W3)) := by
    rcases hrow with h | ⟨g, rfl, hg, hR⟩
    · exact ⟨Bl, hBl, Nat.lt_of_lt_of_le hBllt HB3.out.size, .inl h⟩
    · exact ⟨g, by omega, hR.lt, .inr ⟨rfl, hR⟩⟩
  have HIT := Lib.hid (show IT A2 g Bl B q limit W3 from ⟨hgr, (HB3.out.cell hBllt).trans HCL.out, by
    intro v hv
    have := HBB.out v (by rw [← hv]; exact (HB3.out.cell (p := ⟨B, 0, none⟩) hBlt).symm)
    rw [this]
    exact ⟨by simp, by simp, fun k hk => by cases hk⟩, hglt, Nat.lt_of_lt_of_le hBlt HB3.out.size, hBl, hgB⟩)
  have HJ3 := Lib.hid (hJ _ _ _ H0.out HB3.out)
  have hq47 : q.length ≤ 8796093022208 := by have := HQL.out; omega
  clear hrow hgr hglt hgB
  gi_loopw [5, 16] (fun va vi wr => ∃ (k : Nat) (a : Int) (pre : List (PF limit)), k ≤ q.length ∧ vi = .int .i64 k ∧ va = .int .i64 a ∧ 0 ≤ a ∧ pre.length ≤ k ∧ Hid (pre.map Subtype.val ++ goF limit a ((q.drop k).map toP) = goF limit 0 (q.map toP)) ∧ Hid (J pre wr) ∧ Hid (IT A2 g Bl B q limit wr)) (fun _ vi _ => q.length - (intOf vi).toNat)
  case atStart => exact ⟨0, 0, [], by omega, rfl, rfl, by omega, by simp, Lib.hid (by simp), HJ3, HIT⟩
  case round =>
    clear HIT HJ3
    obtain ⟨k, a, pre, hk, rfl, rfl, ha0, hpl, HP, HJ, HIT⟩ := hrel
    by_cases hlt : k < q.length
    · obtain ⟨rfl, hR⟩ := HIT.out.row.resolve_left (fun h => by rw [h] at hlt; simp at hlt)
      obtain ⟨s, hs⟩ : ∃ s, q[k]? = some s := ⟨q[k], List.getElem?_eq_getElem hlt⟩
      obtain ⟨c0, c1⟩ := hR.c k s hs
      have HBA := Lib.hid (show Below wr.heap.size wr (wr.alloc (Obj.cells #[.int .i64 s.f0, .int .i64 s.f1] 30)) from (Below.refl _ _).alloc (Nat.le_refl _) _)
      have HDK := Lib.hid (show (q.drop k).map toP = toP s :: (q.drop (k + 1)).map toP by
        rw [List.drop_eq_getElem_cons hlt, List.map_cons]
        rw [List.getElem?_eq_getElem hlt] at hs
        cases hs
        rfl)
      have HSL := Lib.hid (HQK.out s (List.mem_of_getElem? hs))
      have HITa := Lib.hid (HIT.out.below HBA.out)
      clear hR hs
      by_cases haf : a < s.f0
      · have hlen : pre.length < l.length + 1 := by have := HQL.out; omega
        obtain ⟨x, hx⟩ : ∃ x : PF limit, x.1 = (a, s.f0) := ⟨⟨(a, s.f0), ha0, haf, by have := HSL.out; show s.f0 ≤ limit; omega⟩, rfl⟩
        obtain ⟨fn, tmps, assign, body, hy, hRn⟩ := hY pre x (wr.alloc (Obj.cells #[.int .i64 s.f0, .int .i64 s.f1] 30)) (hJ _ _ _ HJ.out HBA.out) hlen
        rw [hx] at hy
        dsimp only at hy
        have HPX := Lib.hid (show (pre ++ [x]).map Subtype.val ++ goF limit (max a s.f1) ((q.drop (k + 1)).map toP) = goF limit 0 (q.map toP) by
          rw [← HP.out, HDK.out, List.map_append, List.append_assoc]
          congr 1
          show [x.1] ++ _ = goF limit a (toP s :: _)
          rw [hx, goF]
          show _ = if a < s.f0 then _ else _
          rw [if_pos haf]
          rfl)
        clear hx hlen
        gi_wp2
        refine hRn.mono ?_
        rintro e W4 (⟨rfl, hJ4, hk4⟩ | ⟨rfl, hJx4⟩)
        · have hbx : (wr.alloc (Obj.cells #[.int .i64 s.f0, .int .i64 s.f1] 30)).cell? ⟨wr.heap.size, 1, none⟩ = some (.int .i64 s.f1) := blk_cell (blk_at wr (Obj.cells #[.int .i64 s.f0, .int .i64 s.f1] 30)) 1
          have v1 := (World.cell?_of_block (hk4.cell hbx (by have := HIT.out.bl; show wr.heap.size ≠ B; omega) (fun v hv he => by
            have h1 := (HIT.out.no v (by rw [← hv]; exact (HBA.out.cell (p := ⟨B, 0, none⟩) HIT.out.bl).symm)).2.2 _ he
            dsimp only at h1
            omega))).trans hbx
          have HIT4 := Lib.hid (HITa.out.kp hk4)
          have HJ4 := Lib.hid hJ4
          clear hbx hk4 hJ4 hRn hy
          gi_wp2
          go_roundw
          case rel => exact ⟨k + 1, max a s.f1, pre ++ [x], by omega, by go_num, by rfl, by omega, by simp; omega, HPX, HJ4, HIT4⟩
          case measure => simp [intOf]; omega
        · gi_wp2
          refine bodyPost_ret (results_none rfl _ _ _) rfl ?_
          exact ⟨⟨_, rfl⟩, .inr ⟨pre ++ [x], ⟨_, HQ.out, by rw [← HPX.out]; exact List.prefix_append _ _⟩, hJx4⟩⟩
      · have HPX := Lib.hid (show pre.map Subtype.val ++ goF limit (max a s.f1) ((q.drop (k + 1)).map toP) = goF limit 0 (q.map toP) by
          rw [← HP.out, HDK.out]
          congr 1
          show _ = goF limit a (toP s :: _)
          rw [goF]
          show _ = if a < s.f0 then _ else _
          rw [if_neg haf]
          rfl)
        have HJ2 := Lib.hid (hJ _ _ _ HJ.out HBA.out)
        gi_wp2
        refine ⟨fun _ h => (by cases h), ?_⟩
        gi_wp2
        go_roundw
        case rel => exact ⟨k + 1, max a s.f1, pre, by omega, by go_num, by rfl, by omega, by omega, HPX, HJ2, HITa⟩
        case measure => simp [intOf]; omega
    · obtain rfl : k = q.length := by omega
      have HPE := Lib.hid (show pre.map Subtype.val ++ goF limit a [] = goF limit 0 (q.map toP) by rw [← HP.out, List.drop_length]; rfl)
      have hlm := HIT.out.lim
      by_cases hal : a < limit
      · have hlen : pre.length < l.length + 1 := by have := HQL.out; omega
        obtain ⟨x, hx⟩ : ∃ x : PF limit, x.1 = (a, limit) := ⟨⟨(a, limit), ha0, hal, Int.le_refl _⟩, rfl⟩
        obtain ⟨fn, tmps, assign, body, hy, hRn⟩ := hY pre x wr HJ.out hlen
        rw [hx] at hy
        dsimp only at hy
        have HPX := Lib.hid (show (pre ++ [x]).map Subtype.val = goF limit 0 (q.map toP) by
          rw [← HPE.out, List.map_append, goF, if_pos hal]
          show _ ++ [x.1] = _
          rw [hx])
        clear hx hlen
        gi_wp2
        refine hRn.mono ?_
        rintro e W4 (⟨rfl, hJ4, hk4⟩ | ⟨rfl, hJx4⟩)
        · gi_wp2
          go_end0
          exact ⟨⟨_, rfl⟩, .inl ⟨pre ++ [x], by unfold FreeS; rw [HPX.out]; exact HQ.out, hJ4⟩⟩
        · gi_wp2
          go_end0
          exact ⟨⟨_, rfl⟩, .inr ⟨pre ++ [x], ⟨_, HQ.out, by rw [HPX.out]; exact List.prefix_rfl⟩, hJx4⟩⟩
      · have HPX := Lib.hid (show pre.map Subtype.val = goF limit 0 (q.map toP) by
          rw [← HPE.out, goF, if_neg hal, List.append_nil])
        gi_wp2
        go_end0
        exact ⟨⟨_, rfl⟩, .inl ⟨pre, by unfold FreeS; rw [HPX.out]; exact HQ.out, HJ.out⟩⟩
end Go.Proofs.Ytnbcnkpcmjkglaa
