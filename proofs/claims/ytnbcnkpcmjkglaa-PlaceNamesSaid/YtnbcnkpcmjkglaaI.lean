/- What 'Fit' answers. -/
import Derived.Test.YtnbcnkpcmjkglaaH
import Derived.Test.YtnbcnkpcmjkglaaPL
namespace Go.Proofs.Ytnbcnkpcmjkglaa
open Go.RowKit Go.Shelf Go.Proofs.Ytnbcnkpcmjkglaa.Px Go.Proofs.YtnbcnkpcmjkglaaW.PrintWords Go.Proofs.YtnbcnkpcmjkglaaW.PrintLast
attribute [local go_sem] Oper.semAt_some
/-- The closure: a size that may not be. -/
theorem fit1_calls (n align limit : Int) (Ba Bl : Nat) (W : World) (ha : W.cell? ⟨Ba, 0, none⟩ = some (.int .i64 align)) (hl : W.cell? ⟨Bl, 0, none⟩ = some (.int .i64 limit)) :
    Calls Try.prog 28 #[.int .i64 n, .pointer (some ⟨Ba, 0, none⟩), .pointer (some ⟨Bl, 0, none⟩)] W fun e W' => e = .returned (.bool (!mayB n align limit)) ∧ Below W.heap.size W W' := by
  go_enter Try.func28, Try.ntmps28
  go_wp2_with fail
  refine (place_may.calls n align limit _ _ (may_eq n align limit)).mono ?_
  rintro e u ⟨rfl, ⟨⟨nd, rfl⟩⟩⟩
  go_wp2
  go_ret
  exact ⟨rfl, pw_below_drewN (Below.refl _ _) _⟩
theorem idxi_calls (l : List Int) (A : Option Addr) (c Ba Bl : Nat) (align limit : Int) (W : World) (hC : Kd.C (Kd.int .i64) W A l.length l) (ha : W.cell? ⟨Ba, 0, none⟩ = some (.int .i64 align)) (hl : W.cell? ⟨Bl, 0, none⟩ = some (.int .i64 limit)) :
    Calls Try.prog 37 #[.slice A l.length c, .func (.func 28) #[] #[.pointer (some ⟨Ba, 0, none⟩), .pointer (some ⟨Bl, 0, none⟩)]] W fun e W' => (∃ r : Int, e = .returned (.int .i64 r) ∧ decide (0 ≤ r) = l.any (fun n => !mayB n align limit)) ∧ Below W.heap.size W W' := by
  have HC := Lib.hid hC
  have HLa := Lib.hid ha
  have HL := Lib.hid hl
  have hlen := hC.2.1
  clear hC hl ha
  go_enter Try.func37, Try.ntmps37
  go_wp2_with fail
  go_loopw [8] (fun i wr => ∃ k : Nat, k ≤ l.length ∧ i = .int .i64 k ∧ Hid (∀ (j : Nat) s, j < k → l[j]? = some s → mayB s align limit = true) ∧ Hid (Below W.heap.size W wr)) (fun i _ => l.length - (intOf i).toNat)
  case atStart => exact ⟨0, by omega, rfl, Lib.hid (fun j s h => by omega), Lib.hid (Below.refl _ _)⟩
  case round =>
    obtain ⟨k, hk, rfl, HA, HB⟩ := hrel
    by_cases hlt : k < l.length
    · obtain ⟨ad, e, c0⟩ := Kd.at_int (Kd.C_below HC.out HB.out) (k : Int) (by omega) (by omega)
      subst e
      have hlc := (HB.out.cell (World.block_lt_of_cell? W _ HL.out)).trans HL.out
      have hla := (HB.out.cell (World.block_lt_of_cell? W _ HLa.out)).trans HLa.out
      obtain ⟨s, hs⟩ : ∃ s, l[k]? = some s := ⟨l[k], List.getElem?_eq_getElem hlt⟩
      have hrd : rd l (k : Int) = s := by
        unfold rd
        simp [hs, List.getD_eq_getElem?_getD]
      rw [hrd, Int.toNat_natCast] at c0
      have HS := Lib.hid hs
      clear hs hrd
      go_wp2_with fail
      refine (fit1_calls s align limit Ba Bl wr hla hlc).mono ?_
      rintro e u ⟨rfl, hb⟩
      have HB2 := Lib.hid (HB.out.trans (hb.mono HB.out.size))
      clear hb hlc hla c0
      obtain ⟨b, hb⟩ : ∃ b, b = mayB s align limit := ⟨_, rfl⟩
      rw [← hb]
      have HKB := Lib.hid hb
      clear hb
      cases b
      · go_wp2
        go_ret
        refine ⟨⟨_, rfl, ?_⟩, HB2.out⟩
        rw [decide_eq_true (by omega)]
        exact (List.any_eq_true.2 ⟨s, List.mem_of_getElem? HS.out, by rw [← HKB.out]; rfl⟩).symm
      · go_wp2_with fail
        go_roundw
        case rel => exact ⟨k + 1, by omega, by go_num, Lib.hid (fun j t hj ht => by
          by_cases he : j = k
          · subst he
            rw [HS.out] at ht
            cases ht
            exact HKB.out.symm
          · exact HA.out j t (by omega) ht), HB2⟩
        case measure => simp [intOf]; omega
    · go_wp2
      go_ret
      refine ⟨⟨_, rfl, ?_⟩, HB.out⟩
      rw [decide_eq_false (by omega)]
      refine (List.any_eq_false.2 (fun s hs => ?_)).symm
      obtain ⟨j, hj, rfl⟩ := List.getElem_of_mem hs
      rw [HA.out j _ (by omega) (List.getElem?_eq_getElem hj)]
      simp
theorem contains_calls (l : List Int) (A : Option Addr) (c Ba Bl : Nat) (align limit : Int) (W : World) (hC : Kd.C (Kd.int .i64) W A l.length l) (ha : W.cell? ⟨Ba, 0, none⟩ = some (.int .i64 align)) (hl : W.cell? ⟨Bl, 0, none⟩ = some (.int .i64 limit)) :
    Calls Try.prog 27 #[.slice A l.length c, .func (.func 28) #[] #[.pointer (some ⟨Ba, 0, none⟩), .pointer (some ⟨Bl, 0, none⟩)]] W fun e W' => e = .returned (.bool (l.any (fun n => !mayB n align limit))) ∧ Below W.heap.size W W' := by
  go_enter Try.func27, Try.ntmps27
  go_wp2_with fail
  refine (idxi_calls l A c Ba Bl align limit _ hC ha hl).mono ?_
  rintro e u ⟨⟨r, rfl, hr⟩, hb⟩
  go_wp2
  go_ret
  exact ⟨rfl, hb⟩
theorem blk_keep {V W : World} {k : Nat} {o : Obj} (hb : Below V.heap.size V W) (h : V.heap[k]? = some o) : W.heap[k]? = some o := (hb.block k (blk_lt h)).trans h
/-- One size behind the other. -/
def fitL (align limit : Int) : List S30 → List Int → List Int → List Int × Int
  | _, out, [] => (out, 0)
  | tk, out, n :: r => if (firstR tk n align limit).2 = true then fitL align limit (tk ++ [⟨(firstR tk n align limit).1, (firstR tk n align limit).1 + n⟩]) (out ++ [(firstR tk n align limit).1]) r else ([], 160)
def mayAll (m : List Int) (align limit : Int) : Bool := mayB 0 align limit && !m.any (fun n => !mayB n align limit)
def fitR (l : List S30) (m : List Int) (align limit : Int) : List Int × Int := if mayAll m align limit then fitL align limit l [] m else ([], 2)
theorem firstR_bd {l : List S30} {n align limit : Int} (h : mayB n align limit = true) (h2 : (firstR l n align limit).2 = true) : 0 ≤ (firstR l n align limit).1 ∧ (firstR l n align limit).1 + n ≤ limit := by
  rcases firstR_is (l := l) h with ⟨-, -, hg, -⟩ | ⟨e, -⟩
  · exact ⟨hg.1, hg.2.1⟩
  · rw [e] at h2; simp at h2
/-- The boxes, what is taken, what has come. -/
def FL (w : World) (align limit : Int) (tk : List S30) (out : List Int) (v u : Value) (W : World) : Prop :=
  W.heap[w.heap.size]? = some (Obj.cells #[.int .i64 align] 3 (0, 0)) ∧ W.heap[w.heap.size + 1]? = some (Obj.cells #[.int .i64 limit] 3 (0, 0)) ∧ Kd.R k30 30 W w.heap.size (fun _ => True) v tk ∧ Kd.R (Kd.int .i64) 3 W (w.heap.size + 2) (fun _ => True) u out ∧ Below w.heap.size w W
theorem FL.below {w : World} {align limit : Int} {tk : List S30} {out : List Int} {v u : Value} {W W' : World} (h : FL w align limit tk out v u W) (hb : Below W.heap.size W W') : FL w align limit tk out v u W' := by
  obtain ⟨h1, h2, h3, h4, h5⟩ := h
  exact ⟨blk_keep hb h1, blk_keep hb h2, Kd.R_below h3 hb, Kd.R_below h4 hb, h5.trans (hb.mono h5.size)⟩
theorem FL.out {w : World} {align limit : Int} {tk : List S30} {out out' : List Int} {v u u' : Value} {W W' : World} (h : FL w align limit tk out v u W) (ho : Kd.R (Kd.int .i64) 3 W' (w.heap.size + 2) (fun _ => True) u' out') (hb : Below (w.heap.size + 2) W W') (hg : W.grownBy W' u.ownBlock) : FL w align limit tk out' v u' W' := by
  obtain ⟨h1, h2, h3, h4, h5⟩ := h
  have hn := Kd.R_base h4
  exact ⟨blk_grown h1 hg (fun e => by have := hn _ e.symm; omega), blk_grown h2 hg (fun e => by have := hn _ e.symm; omega), Kd.R_over h3 h4 (by simp [k30, Kd.iso, Kd.pair, Kd.int, Kd.scalar]) hg, ho, h5.trans (hb.mono (by omega))⟩
theorem FL.take {w : World} {align limit : Int} {tk tk' : List S30} {out : List Int} {v u v' : Value} {W W' : World} (h : FL w align limit tk out v u W) (ho : Kd.R k30 30 W' w.heap.size (fun _ => True) v' tk') (hb : Below w.heap.size W W') (hg : W.grownBy W' v.ownBlock) : FL w align limit tk' out v' u W' := by
  obtain ⟨h1, h2, h3, h4, h5⟩ := h
  exact ⟨blk_grown h1 hg (Kd.R_ne h3 h1 (by decide)), blk_grown h2 hg (Kd.R_ne h3 h2 (by decide)), ho, Kd.R_over h4 h3 (by simp [Kd.int, Kd.scalar]) hg, h5.trans hb⟩
def place_Fit.f (_k : Nat) (l : List S30) (m : List Int) (align limit : Int) : Option (List Int × Int) := if l.length ≤ 1000000 ∧ m.length ≤ 1000000 then some (fitR l m align limit) else none
theorem place_Fit.mono : ∀ a0 a1 a2 a3 k, LeO (place_Fit.f k a0 a1 a2 a3) (place_Fit.f (k + 1) a0 a1 a2 a3) := fun _ _ _ _ _ => LeO.refl _
set_option maxRecDepth 100000 in
set_option maxHeartbeats 8000000 in
theorem place_Fit.calls (k : Nat) (A0 : Option Addr) (c0 : Nat) (l0 : List S30) (A1 : Option Addr) (c1 : Nat) (l1 : List Int) (align limit : Int) (r1 : List Int) (r2 : Int) (w : World) (hr0 : Kd.C k30 w A0 l0.length l0) (_hc0 : l0.length ≤ c0) (hr1 : Kd.C (Kd.int .i64) w A1 l1.length l1) (_hc1 : l1.length ≤ c1) (h : place_Fit.f k l0 l1 align limit = some (r1, r2)) :
    Calls Try.prog 17 #[.slice A0 l0.length c0, .slice A1 l1.length c1, .int .i64 align, .int .i64 limit] w fun e w' => ∃ v0_ : Value, e = .returned (.tuple #[v0_, .int .i64 r2]) ∧ Kd.R (Kd.int .i64) 3 w' w.heap.size (fun _ => True) v0_ r1 ∧ Below w.heap.size w w' := by
  unfold place_Fit.f at h
  split at h
  case isFalse => cases h
  rename_i hlen
  obtain ⟨hl0, hl1⟩ := hlen
  injection h with h
  have HH := Lib.hid h
  have HB0 := Lib.hid (show Below w.heap.size w ((w.alloc (Obj.cells #[.int .i64 align] 3)).alloc (Obj.cells #[.int .i64 limit] 3)) from ((Below.refl _ _).alloc (Nat.le_refl _) _).alloc (by simp) _)
  have HR := Lib.hid hr0
  have HR1 := Lib.hid hr1
  clear hr0 hr1 h
  go_enter Try.func17, Try.ntmps17
  go_wp2_with fail
  refine (place_may.calls 0 align limit _ _ (may_eq 0 align limit)).mono ?_
  rintro e u ⟨rfl, ⟨⟨nd, rfl⟩⟩⟩
  cases hmay : mayB 0 align limit
  case false =>
    have hfr : fitR l0 l1 align limit = ([], 2) := by unfold fitR mayAll; rw [hmay]; simp
    have h := HH.out
    rw [hfr] at h
    injection h with e1 e2
    subst e1 e2
    clear HH
    go_wp2
    go_ret2
    exact ⟨_, rfl, Kd.R_nil _ _ _ _ (fun _ => True), pw_below_drewN HB0.out _⟩
  have hm := mayB_iff.1 hmay
  have b0 : (((w.alloc (Obj.cells #[.int .i64 align] 3)).alloc (Obj.cells #[.int .i64 limit] 3)).drewN nd).heap[w.heap.size]? = some (Obj.cells #[.int .i64 align] 3 (0, 0)) := blk_alloc (blk_at w _) _
  have b1 : (((w.alloc (Obj.cells #[.int .i64 align] 3)).alloc (Obj.cells #[.int .i64 limit] 3)).drewN nd).heap[w.heap.size + 1]? = some (Obj.cells #[.int .i64 limit] 3 (0, 0)) := by
    have := blk_at (w.alloc (Obj.cells #[.int .i64 align] 3)) (Obj.cells #[.int .i64 limit] 3)
    rw [World.size_alloc] at this
    exact this
  have hB1 := pw_below_drewN HB0.out nd
  obtain ⟨w1, hw1⟩ : ∃ w1, w1 = ((w.alloc (Obj.cells #[.int .i64 align] 3)).alloc (Obj.cells #[.int .i64 limit] 3)).drewN nd := ⟨_, rfl⟩
  rw [← hw1] at b0 b1 hB1 ⊢
  clear hw1 HB0
  go_wp2_with fail
  refine (contains_calls l1 A1 c1 w.heap.size (w.heap.size + 1) align limit w1 (Kd.C_below HR1.out hB1) (blk_cell b0 0) (blk_cell b1 0)).mono ?_
  rintro e u ⟨rfl, hb⟩
  cases hany : l1.any (fun n => !mayB n align limit)
  case true =>
    have hfr : fitR l0 l1 align limit = ([], 2) := by unfold fitR mayAll; rw [hany]; simp
    have h := HH.out
    rw [hfr] at h
    injection h with e1 e2
    subst e1 e2
    clear HH
    go_wp2
    go_ret2
    exact ⟨_, rfl, Kd.R_nil _ _ _ _ (fun _ => True), hB1.trans (hb.mono hB1.size)⟩
  have hfr : fitR l0 l1 align limit = fitL align limit l0 [] l1 := by unfold fitR mayAll; rw [hany, hmay]; rfl
  rw [hfr] at HH
  have c0' := blk_keep hb b0
  have c1' := blk_keep hb b1
  have hB2 := hB1.trans (hb.mono hB1.size)
  clear b0 b1 hB1 hb hfr
  go_wp2_with fail
  refine (clone_R l0 A0 c0 _ (Kd.C_below HR.out hB2) (by omega)).mono ?_
  rintro e W3 ⟨⟨v, rfl, hR3⟩, hb3⟩
  obtain ⟨g3, n3, hv3⟩ := Kd.R_slice hR3
  subst hv3
  have d0 := blk_keep hb3 c0'
  have d1 := blk_keep hb3 c1'
  have hB3 := hB2.trans (hb3.mono hB2.size)
  have hs2 := hB2.size
  have HL := Lib.hid (show FL w align limit l0 [] (.slice g3 l0.length n3) (.slice none 0 0) W3 from ⟨d0, d1, Kd.R_lower hR3 hs2, Kd.R_nil _ _ _ _ (fun _ => True), hB3⟩)
  have HALL := Lib.hid (show ∀ n ∈ l1, mayB n align limit = true from fun n hn => by
    have := List.any_eq_false.1 hany n hn
    simpa using this)
  have hlim := hm.2.2.2
  clear c0' c1' hB2 hR3 hb3 d0 d1 hB3 hs2 hmay hany hm
  go_wp2_with fail
  go_loopw [0, 10, 28] (fun v u i wr => ∃ (k : Nat) (tk : List S30) (out : List Int) (g q : Option Addr) (n m : Nat), k ≤ l1.length ∧ v = .slice g tk.length n ∧ u = .slice q out.length m ∧ i = .int .i64 k ∧ Hid (tk.length = l0.length + k ∧ out.length = k) ∧ Hid (FL w align limit tk out (.slice g tk.length n) (.slice q out.length m) wr) ∧ Hid (fitL align limit tk out (l1.drop k) = (r1, r2))) (fun _ _ i _ => l1.length - (intOf i).toNat)
  case atStart => exact ⟨0, l0, [], g3, none, n3, 0, by omega, rfl, rfl, rfl, Lib.hid ⟨rfl, rfl⟩, HL, HH⟩
  case round =>
    clear HL HH
    obtain ⟨k, tk, out, g, q, n, m, hk, rfl, rfl, rfl, HLEN, HL, HH⟩ := hrel
    by_cases hlt : k < l1.length
    · obtain ⟨ad, e, x0⟩ := Kd.at_int (Kd.C_below HR1.out HL.out.2.2.2.2) (k : Int) (by omega) (by omega)
      subst e
      obtain ⟨s, hs⟩ : ∃ s, l1[k]? = some s := ⟨l1[k], List.getElem?_eq_getElem hlt⟩
      have hrd : rd l1 (k : Int) = s := by
        unfold rd
        simp [hs, List.getD_eq_getElem?_getD]
      rw [hrd, Int.toNat_natCast] at x0
      have hms := HALL.out s (List.mem_of_getElem? hs)
      have hdrop : l1.drop k = s :: l1.drop (k + 1) := List.drop_eq_getElem?_toList_append .. |>.trans (by rw [hs]; rfl)
      have hH := HH.out
      rw [hdrop, fitL] at hH
      obtain ⟨a, b, hab⟩ : ∃ a b, firstR tk s align limit = (a, b) := ⟨_, _, rfl⟩
      have hbd := fun h2 => firstR_bd (l := tk) hms h2
      rw [hab] at hH hbd
      have hH := Lib.hid hH
      have hms := (mayB_iff.1 hms).1
      have y0 := blk_cell HL.out.1 0
      have y1 := blk_cell HL.out.2.1 0
      obtain ⟨hl_, hc_, hC_⟩ := Kd.R_reads' HL.out.2.2.1
      have HC_ := Lib.hid hC_
      have HAB := Lib.hid hab
      clear hs hrd hdrop hC_ hab HH hl_
      have hff : place_First.f 0 tk s align limit = some (a, b) := by rw [first_f 0 tk s align limit (by have := HLEN.out.1; omega), HAB.out]
      have HF := Lib.hid (place_First.calls 0 g n tk s align limit a b wr HC_.out hc_ hff)
      clear hff
      go_wp2_with fail
      refine HF.out.mono ?_
      rintro e u ⟨rfl, hb⟩
      have HL2 := Lib.hid (HL.out.below hb)
      clear hb HL HC_ y0 y1 HF
      cases b
      case false =>
        have hh := hH.out
        rw [if_neg (by simp)] at hh
        injection hh with e1 e2
        subst e1 e2
        go_wp2
        go_ret2
        exact ⟨_, rfl, Kd.R_nil _ _ _ _ (fun _ => True), HL2.out.2.2.2.2⟩
      case true =>
        have hh := hH.out
        rw [if_pos rfl] at hh
        have HN := Lib.hid hh
        clear hh hH
        obtain ⟨ha0, ha1⟩ := hbd rfl
        have hw : IntKind.i64.wrap (a + s) = a + s := IntWalk.i64_in _ (by omega)
        have hz : w.heap.size + 2 ≤ u.heap.size := blk_lt HL2.out.2.1
        have hl8 : (out.length + 1) * 8 ≤ 140737488355328 := by have := HLEN.out; omega
        have hl16 : (tk.length + 1) * 16 ≤ 140737488355328 := by have := HLEN.out; omega
        go_wp2_with (first
          | ((with_reducible refine gate_builtin (b := .append) (xs := #[.tmp 42, .tmp 44]) rfl ?_); at_builtin; refine Kd.R_append (Kd.int .i64) (w0 := u) (w.heap.size + 2) rfl (.tmp 42) (.tmp 44) 34 3 (.int .i64 0) 8 rfl Try.underlying34 info3 rfl (by decide) (by omega) (.slice q out.length m) out a [.int .i64 a] (fun _ => True) (fun _ => False) rfl rfl rfl (fun _ hk => hk.elim) (fun _ _ => trivial) HL2.out.2.2.2.1 (Below.refl _ _) hz hl8 ?_; intro v' W8 hO hb hg _; obtain ⟨gg, cc, hvv⟩ := Kd.R_slice hO; rw [List.length_append, List.length_singleton] at hvv; subst hvv; have HL3 := Lib.hid (FL.out HL2.out hO hb hg); clear hO hb hg HL2 hz)
          | ((with_reducible refine gate_builtin (b := .append) (xs := #[.tmp 46, .tmp 52]) rfl ?_); at_builtin; refine Kd.R_append k30 (w0 := W8) w.heap.size rfl (.tmp 46) (.tmp 52) 22 30 (.agg #[.int .i64 0, .int .i64 0]) 16 rfl Try.underlying22 info30 rfl (by decide) (by omega) (.slice g tk.length n) tk ⟨a, a + s⟩ [.int .i64 a, .int .i64 (a + s)] (fun _ => True) (fun _ => False) rfl rfl (k30_mkM _ _ _ _) (fun _ hk => hk.elim) (fun _ _ => trivial) HL3.out.2.2.1 (Below.refl _ _) HL3.out.2.2.2.2.size hl16 ?_; intro v' W9 hO hb hg _; obtain ⟨gg', cc', hvv⟩ := Kd.R_slice hO; rw [List.length_append, List.length_singleton] at hvv; subst hvv; have HL4 := Lib.hid (FL.take HL3.out hO hb hg); clear hO hb hg HL3))
        go_roundw
        case rel => exact ⟨k + 1, tk ++ [⟨a, a + s⟩], out ++ [a], gg', gg, cc', cc, by omega, by simp only [List.length_append, List.length_singleton], by simp only [List.length_append, List.length_singleton], by go_num, Lib.hid (by have := HLEN.out; simp; omega), Lib.hid (by simpa using HL4.out), HN⟩
        case measure => simp [intOf]; omega
    · have hH := HH.out
      rw [List.drop_eq_nil_of_le (by omega), fitL] at hH
      injection hH with e1 e2
      subst e1 e2
      have HO := Lib.hid (Kd.R_lower HL.out.2.2.2.1 (Nat.le_add_right w.heap.size 2))
      go_wp2
      go_ret2
      exact ⟨_, rfl, HO.out, HL.out.2.2.2.2⟩
end Go.Proofs.Ytnbcnkpcmjkglaa
