/- What the document's links answer: what config's own do. -/
import Derived.Test.YtehbabkgaecoaaaR15
namespace Go.Proofs.Ytehbabkgaecoaaa
set_option linter.unusedVariables false
set_option linter.unusedSimpArgs false
open Go.RowKit Go.Shelf Go.Proofs.YtehbabkgaecoaaaW.PrintWords Go.Proofs.YtehbabkgaecoaaaW.PrintLast

theorem linksB_marks {C : S29} (h : ¬ (marks C).isSome = true) : linksB C = false := by
  unfold linksB
  cases hm : (marks C).isSome with
  | true => exact absurd hm h
  | false => simp
theorem linksB_bad {C : S29} {k : Nat} {x : S61} (h : C.f11[k]? = some x) (hx : lkS C x = false) : linksB C = false :=
  linksB_marks fun hm => by
    have := List.all_eq_true.1 ((marks_iff C).1 hm).1 x (List.mem_of_getElem? h)
    rw [hx] at this
    cases this
theorem lkS_none {C : S29} {x : S61} (h : hdS C x = none) : lkS C x = false := by unfold lkS; rw [h]
theorem lkS_some {C : S29} {x : S61} {s : S59} (h : hdS C x = some s) : lkS C x = x.f1.all (dstS C s) := by unfold lkS; rw [h]
theorem hdS_some {C : S29} {x : S61} {s : S59} (h : hdS C x = some s) : 0 ≤ x.f0 ∧ x.f0 < C.f10.length ∧ C.f10[x.f0.toNat]? = some s := by
  by_cases hin : 0 ≤ x.f0 ∧ x.f0 < C.f10.length
  · have hk : x.f0.toNat < C.f10.length := by omega
    have hg := List.getElem?_eq_getElem hk
    rw [hdS_in hin.1 hg] at h
    split at h
    · injection h with h; subst h; exact ⟨hin.1, hin.2, hg⟩
    · cases h
  · rw [hdS_out hin] at h; cases h
theorem ports_64 {C : S29} (hp : portsB C = true) : C.f10.length ≤ 64 := by
  simp only [portsB, Bool.and_eq_true, decide_eq_true_eq] at hp
  exact hp.1
theorem count_max {l : List Int} {n : Nat} (h : ∀ m : Nat, m < n → l.count (m : Int) ≤ 1) (hn : l.count (n : Int) ≤ 1) : ∀ m : Nat, m < n + 1 → l.count (m : Int) ≤ 1 := fun m hm => by
  by_cases hmn : m = n
  · subst hmn; exact hn
  · exact h m (by omega)
set_option linter.unusedVariables false in
set_option linter.unusedSimpArgs false in
set_option maxRecDepth 100000 in
set_option maxHeartbeats 32000000 in
theorem rlinks_calls (A1 A8 A9 A10 A11 : Option Addr) (c1 c8 c9 c10 c11 : Nat) (C : S29) (w : World) (h : CfgIn w C A1 A8 A9 A10 A11 c1 c8 c9 c10 c11) (hp : portsB C = true) (hC : CfgOk C) (hsm : ∀ l ∈ C.f11, l.f1.length * 8 ≤ 140737488351232) : Calls Try.prog 55 #[.agg #[.int .i64 C.f0, .slice A1 C.f1.length c1, .int .i64 C.f2, .int .i64 C.f3, .int .i64 C.f4, .int .i64 C.f5, .int .i64 C.f6, .int .i64 C.f7, .slice A8 C.f8.length c8, .slice A9 C.f9.length c9, .slice A10 C.f10.length c10, .slice A11 C.f11.length c11]] w fun e w' => e = .returned (.bool (linksB C)) ∧ Below w.heap.size w w' := by
  have HB0 := Lib.hid (show Below w.heap.size w (w.alloc (Obj.cells #[.int .i64 C.f0, .slice A1 C.f1.length c1, .int .i64 C.f2, .int .i64 C.f3, .int .i64 C.f4, .int .i64 C.f5, .int .i64 C.f6, .int .i64 C.f7, .slice A8 C.f8.length c8, .slice A9 C.f9.length c9, .slice A10 C.f10.length c10, .slice A11 C.f11.length c11] 29)) from (Below.refl _ _).alloc (Nat.le_refl _) _)
  have HR := Lib.hid h
  have HN := Lib.hid (blk_new w (o := (Obj.cells #[.int .i64 C.f0, .slice A1 C.f1.length c1, .int .i64 C.f2, .int .i64 C.f3, .int .i64 C.f4, .int .i64 C.f5, .int .i64 C.f6, .int .i64 C.f7, .slice A8 C.f8.length c8, .slice A9 C.f9.length c9, .slice A10 C.f10.length c10, .slice A11 C.f11.length c11] 29)))
  obtain ⟨l1, l8, l9, l10, l11⟩ := h.len
  have HP := Lib.hid hp
  have HCO := Lib.hid hC.2.2.2.2.2.2.2.2.2.2.2.2
  have HSM := Lib.hid hsm
  clear h hp hC hsm
  obtain ⟨b, hb⟩ : ∃ b, b = linksB C := ⟨_, rfl⟩
  rw [← hb]
  have HBB := Lib.hid hb
  clear hb
  go_enter Try.func55, Try.ntmps55
  by_cases h1 : C.f11.length ≤ 64
  case neg =>
    have hres := Lib.hid (show b = false by rw [HBB.out]; simp [linksB, h1])
    have e1 : decide (64 < (C.f11.length : Int)) = true := decide_eq_true (by omega)
    clear h1
    go_wp2
    go_ret
    exact ⟨ret_bool hres.out.symm, HB0.out⟩
  have hbv := Lib.hid (show b = ((marks C).isSome && (prs C.f11.length).all (lkOk C)) by rw [HBB.out, linksB, decide_eq_true h1, Bool.true_and])
  have e1 : decide (64 < (C.f11.length : Int)) = false := decide_eq_false (by omega)
  go_wp2
  clear e1
  generalize hW1 : w.alloc (Obj.cells #[.int .i64 C.f0, .slice A1 C.f1.length c1, .int .i64 C.f2, .int .i64 C.f3, .int .i64 C.f4, .int .i64 C.f5, .int .i64 C.f6, .int .i64 C.f7, .slice A8 C.f8.length c8, .slice A9 C.f9.length c9, .slice A10 C.f10.length c10, .slice A11 C.f11.length c11] 29) = W1 at *
  clear hW1
  go_loopw [3, 4] (fun v0 i wr => ∃ (k : Nat) (v : Value), k ≤ C.f11.length ∧ i = .int .i64 k ∧ v = v0 ∧ Hid ((C.f11.take k).all (lkS C) = true) ∧ Hid ((usd (C.f11.take k)).length ≤ C.f10.length) ∧ Hid (Kd.R kI 3 wr W1.heap.size (fun _ => True) v (usd (C.f11.take k))) ∧ Hid (Below W1.heap.size W1 wr)) (fun _ i _ => C.f11.length - (intOf i).toNat)
  case atStart => exact ⟨0, _, by omega, rfl, rfl, Lib.hid (by simp), Lib.hid (by simp [usd]), Lib.hid (Kd.R_nil _ _ _ _ _), Lib.hid (Below.refl _ _)⟩
  case round =>
    obtain ⟨k, v, hk, rfl, rfl, HA, HLE, HO, HB⟩ := hrel
    have HC := Lib.hid (blk_keep HB.out HN.out)
    by_cases hlt : k < C.f11.length
    · obtain ⟨ad, x, Ax, cx, e11, X0, X1, X2, hcx, HXR, HX⟩ := at_K (HR.out.below HB0.out).2.2.2.2.2 k hlt
      cases e11
      have x0 := (HB.out.cell (World.block_lt_of_cell? _ _ X0)).trans X0
      have x1 := (HB.out.cell (World.block_lt_of_cell? _ _ X1)).trans X1
      have x2 := (HB.out.cell (World.block_lt_of_cell? _ _ X2)).trans X2
      clear X0 X1 X2
      obtain ⟨-, -, -, -, -, -, -, -, -, -, -, g11⟩ := cfg_cells HC.out
      have hbad := Lib.hid (show lkS C x = false → b = false from fun h => by rw [HBB.out]; exact linksB_bad HX.out h)
      go_wp2_with fail
      have hLb := blk_new wr (Obj.cells #[.int .i64 x.f0, .slice Ax x.f1.length cx, .int .i64 x.f2] 61)
      have hBl := HB.out.alloc HB.out.size (Obj.cells #[.int .i64 x.f0, .slice Ax x.f1.length cx, .int .i64 x.f2] 61)
      have hOl := Kd.R_alloc HO.out (Obj.cells #[.int .i64 x.f0, .slice Ax x.f1.length cx, .int .i64 x.f2] 61)
      clear g11 x0 x1 x2 HC HO HB
      generalize hWl : wr.alloc (Obj.cells #[.int .i64 x.f0, .slice Ax x.f1.length cx, .int .i64 x.f2] 61) = Wl at *
      generalize hLB : wr.heap.size = LB at *
      clear hWl hLB
      have HLb := Lib.hid hLb
      have HBl := Lib.hid hBl
      have HOl := Lib.hid hOl
      have HCl := Lib.hid (blk_keep hBl HN.out)
      clear hLb hBl hOl
      have hlx : x.f1.length * 8 ≤ 140737488351232 := HSM.out x (List.mem_of_getElem? HX.out)
      cases hd : hdS C x with
      | none =>
        have hres := Lib.hid (hbad.out (lkS_none hd))
        go_wp2
        refine reg8 _ _ _ _ _ _ _ _ _ _ C x Ax cx Wl w.heap.size LB HCl HLb (Lib.hid (HR.out.below (below_step HB0.out HBl.out)).2.2.2.1.2) HP l10 hlx _ (by kernel_rfl) _ _ _ _ _ _ _ _ _ _ _ _ _ _ _ _ _ _ _ _ _ _ _ _ _ _ _ _ _ _ _ _ _ _ _ _ _ _ _ _ _ _ _ _ _ _ _ _ _ _ _ _ _ _ _ _ _ _ _ _ _ _ _ _ _ _ _ _ _ _ _ _ _ _ _ _ _ _ _ _ _ _ _ _ _ _ _ _ _ _ _ _ _ _ _ _ _ _ _ _ _ _ _ _ _ _ _ _ _ _ _ _ _ _ _ _ _ _ _ _ _ _ _ _ _ _ _ _ _ _ _ _ _ _ _ _ _ _ _ _ _ _ _ _ _ _ _ _ _ _ _ _ _ _ _ _ _ _ _ _ _ _ _ _ _ _ _ _ _ _ _ _ _ _ _ _ _ _ _ _ _ _ _ _ _ _ _ _ _ _ _ _ _ _ _ _ _ _ _ _ _ _ _ _ _ _ _ _ _ _ _ _ _ _ _ _ _ _ _ _ _ _ _ _ _ _ ?_
        rw [hd, Option.isNone_none]
        clear hd
        intro v31 v32 v33 v34 v35 v36 v37 v38 v39 v40 v41 v42 v43 v44 v45 v46 v47 v48 v49 v50 v51 v52 v53 v54 v55 v56 v57 v58 v59 v60 v61 v62 v63 v64 v65 v66 v67 v68 v69 v70 v71 v72 v73 v74 W9 hb
        have HB9 := Lib.hid (below_step HB0.out (below_step HBl.out hb))
        clear hb
        go_wp2
        go_ret
        exact ⟨ret_bool hres.out.symm, HB9.out⟩
      | some s =>
      have HS1 := Lib.hid (show lkS C x = x.f1.all (dstS C s) from lkS_some hd)
      have HI0 := Lib.hid (hdS_some hd).1
      have HS := Lib.hid (hdS_some hd).2.2
      go_wp2
      refine reg8 _ _ _ _ _ _ _ _ _ _ C x Ax cx Wl w.heap.size LB HCl HLb (Lib.hid (HR.out.below (below_step HB0.out HBl.out)).2.2.2.1.2) HP l10 hlx _ (by kernel_rfl) _ _ _ _ _ _ _ _ _ _ _ _ _ _ _ _ _ _ _ _ _ _ _ _ _ _ _ _ _ _ _ _ _ _ _ _ _ _ _ _ _ _ _ _ _ _ _ _ _ _ _ _ _ _ _ _ _ _ _ _ _ _ _ _ _ _ _ _ _ _ _ _ _ _ _ _ _ _ _ _ _ _ _ _ _ _ _ _ _ _ _ _ _ _ _ _ _ _ _ _ _ _ _ _ _ _ _ _ _ _ _ _ _ _ _ _ _ _ _ _ _ _ _ _ _ _ _ _ _ _ _ _ _ _ _ _ _ _ _ _ _ _ _ _ _ _ _ _ _ _ _ _ _ _ _ _ _ _ _ _ _ _ _ _ _ _ _ _ _ _ _ _ _ _ _ _ _ _ _ _ _ _ _ _ _ _ _ _ _ _ _ _ _ _ _ _ _ _ _ _ _ _ _ _ _ _ _ _ _ _ _ _ _ _ _ _ _ _ _ _ _ _ _ _ _ _ ?_
      rw [hd, Option.isNone_some]
      clear hd
      intro v31 v32 v33 v34 v35 v36 v37 v38 v39 v40 v41 v42 v43 v44 v45 v46 v47 v48 v49 v50 v51 v52 v53 v54 v55 v56 v57 v58 v59 v60 v61 v62 v63 v64 v65 v66 v67 v68 v69 v70 v71 v72 v73 v74 W9 hb
      have HB9 := Lib.hid (below_step HBl.out hb)
      have HL9 := Lib.hid (blk_keep hb HLb.out)
      have HO9 := Lib.hid (Kd.R_below HOl.out hb)
      have HDL := Lib.hid (HSM.out x (List.mem_of_getElem? HX.out))
      have h64 := Lib.hid (ports_64 HP.out)
      clear hb HLb HBl HOl HCl
      have L0 := blk_cell HL9.out 0
      go_wp2_with (first | ((with_reducible refine gate_z (b := .append) (xs := #[.tmp 76, .tmp 79]) rfl ?_); at_builtin; refine Kd.R_append kI (w0 := W1) W1.heap.size rfl (.tmp 76) (.tmp 79) 23 3 (.int .i64 0) 8 rfl Try.underlying23 info3 rfl (Nat.zero_lt_one) (by omega) v _ x.f0 [.int .i64 x.f0] (fun _ => True) (fun _ => False) rfl rfl rfl (fun _ hk => hk.elim) (fun _ _ => trivial) HO9.out HB9.out HB9.out.size (by have := HLE.out; have := h64.out; omega) ?_; intro v5 W5 ho5 hb5 hg5 hat5; have HO5 := Lib.hid ho5; have HB5 := Lib.hid hb5; have HL5 := Lib.hid (blk_grown HL9.out hg5 (Kd.R_ne HO9.out HL9.out (by decide))); clear ho5 hb5 hg5 hat5))
      clear L0
      go_loopw [3, 6] (fun v0 i W => ∃ (j : Nat) (u : Value), j ≤ x.f1.length ∧ i = .int .i64 j ∧ u = v0 ∧ Hid ((x.f1.take j).all (dstS C s) = true) ∧ Hid (Kd.R kI 3 W W1.heap.size (fun _ => True) u (usd (C.f11.take k) ++ [x.f0] ++ x.f1.take j)) ∧ Hid (Below W1.heap.size W1 W) ∧ Hid (W.heap[LB]? = some (Obj.cells #[.int .i64 x.f0, .slice Ax x.f1.length cx, .int .i64 x.f2] 61))) (fun _ i _ => x.f1.length - (intOf i).toNat)
      case atStart => exact ⟨0, _, by omega, rfl, rfl, Lib.hid (by simp), Lib.hid (by rw [List.take_zero, List.append_nil]; exact HO5.out), HB5, HL5⟩
      case round => as_aux_lemma =>
        clear HO5 HB5 HL5
        obtain ⟨j, u, hj, rfl, rfl, HD, HO, HB, HL⟩ := hrel
        have HC := Lib.hid (blk_keep HB.out HN.out)
        obtain ⟨-, -, -, -, -, -, -, -, -, -, g10, -⟩ := cfg_cells HC.out
        have L1 := blk_cell HL.out 1
        by_cases hlj : j < x.f1.length
        · obtain ⟨ay, n, ea, n0, HNV⟩ := at_I (Kd.C_below HXR.out HB.out) j hlj
          subst ea
          have hbadn := Lib.hid (show dstS C s n = false → b = false from fun h => hbad.out (by rw [HS1.out]; exact all_false_at HNV.out h))
          cases hdn : dstS C s n with
          | false =>
            have hres := Lib.hid (hbadn.out hdn)
            go_wp2
            refine reg15 _ _ _ _ _ _ _ _ _ _ C x s n (some ay) cx wr w.heap.size LB HC HL (Lib.hid (HR.out.below (below_step HB0.out HB.out)).2.2.2.1.2) l10 HI0.out HS _ (by kernel_rfl) _ _ _ _ _ _ _ _ _ _ _ _ _ _ _ _ _ _ _ _ _ _ _ _ _ _ _ _ _ _ _ _ _ _ _ _ _ _ _ _ _ _ _ _ _ _ _ _ _ _ _ _ _ _ _ _ _ _ _ _ _ _ _ _ _ _ _ _ _ _ _ _ _ _ _ _ _ _ _ _ _ _ _ _ _ _ _ _ _ _ _ _ _ _ _ _ _ _ _ _ _ _ _ _ _ _ _ _ _ _ _ _ _ _ _ _ _ _ _ _ _ _ _ _ _ _ _ _ _ _ _ _ _ _ _ _ _ _ _ _ _ _ _ _ _ _ _ _ _ _ _ _ _ _ _ _ _ _ _ _ _ _ _ _ _ _ _ _ _ _ _ _ _ _ _ _ _ _ _ _ _ _ _ _ _ _ _ _ _ _ _ _ _ _ _ _ _ _ _ _ _ _ _ _ _ _ _ _ _ _ _ _ _ _ _ _ _ _ _ _ _ _ _ _ _ ?_
            rw [hdn, Bool.not_false]
            clear hdn
            intro v93 v94 v95 v96 v97 v98 v99 v100 v101 v102 v103 v104 v105 v106 v107 v108 v109 v110 v111 v112 v113 v114 v115 v116 v117 v118 v119 v120 v121 v122 v123 v124 v125 v126 v127 v128 v129 v130 v131 v132 v133 v134 v135 v136 W9 hb
            have HB9 := Lib.hid (below_step HB0.out (below_step HB.out hb))
            clear hb
            go_wp2
            go_ret
            exact ⟨ret_bool hres.out.symm, HB9.out⟩
          | true =>
          have HDN := Lib.hid (show (x.f1.take (j + 1)).all (dstS C s) = true from all_take_succ HNV.out HD.out hdn)
          go_wp2
          refine reg15 _ _ _ _ _ _ _ _ _ _ C x s n (some ay) cx wr w.heap.size LB HC HL (Lib.hid (HR.out.below (below_step HB0.out HB.out)).2.2.2.1.2) l10 HI0.out HS _ (by kernel_rfl) _ _ _ _ _ _ _ _ _ _ _ _ _ _ _ _ _ _ _ _ _ _ _ _ _ _ _ _ _ _ _ _ _ _ _ _ _ _ _ _ _ _ _ _ _ _ _ _ _ _ _ _ _ _ _ _ _ _ _ _ _ _ _ _ _ _ _ _ _ _ _ _ _ _ _ _ _ _ _ _ _ _ _ _ _ _ _ _ _ _ _ _ _ _ _ _ _ _ _ _ _ _ _ _ _ _ _ _ _ _ _ _ _ _ _ _ _ _ _ _ _ _ _ _ _ _ _ _ _ _ _ _ _ _ _ _ _ _ _ _ _ _ _ _ _ _ _ _ _ _ _ _ _ _ _ _ _ _ _ _ _ _ _ _ _ _ _ _ _ _ _ _ _ _ _ _ _ _ _ _ _ _ _ _ _ _ _ _ _ _ _ _ _ _ _ _ _ _ _ _ _ _ _ _ _ _ _ _ _ _ _ _ _ _ _ _ _ _ _ _ _ _ _ _ _ ?_
          rw [hdn, Bool.not_true]
          clear hdn
          intro v93 v94 v95 v96 v97 v98 v99 v100 v101 v102 v103 v104 v105 v106 v107 v108 v109 v110 v111 v112 v113 v114 v115 v116 v117 v118 v119 v120 v121 v122 v123 v124 v125 v126 v127 v128 v129 v130 v131 v132 v133 v134 v135 v136 W9 hb
          have HB9' := Lib.hid (below_step HB.out hb)
          have HL9' := Lib.hid (blk_keep hb HL.out)
          have HO9' := Lib.hid (Kd.R_below HO.out hb)
          have hlen := Lib.hid (show ((usd (C.f11.take k) ++ [x.f0] ++ x.f1.take j).length + 1) * 8 ≤ 140737488355328 by
            rw [List.length_append, List.length_append, List.length_take]
            have := HLE.out; have := h64.out; have := HDL.out; simp; omega)
          clear hb L1 n0 g10
          go_wp2_with (first | ((with_reducible refine gate_z (b := .append) (xs := #[.tmp 138, .tmp 140]) rfl ?_); at_builtin; refine Kd.R_append kI (w0 := W1) W1.heap.size rfl (.tmp 138) (.tmp 140) 23 3 (.int .i64 0) 8 rfl Try.underlying23 info3 rfl (Nat.zero_lt_one) (by omega) u _ n [.int .i64 n] (fun _ => True) (fun _ => False) rfl rfl rfl (fun _ hk => hk.elim) (fun _ _ => trivial) HO9'.out HB9'.out HB9'.out.size hlen.out ?_; intro v6 W6 ho6 hb6 hg6 hat6; have HO6 := Lib.hid ho6; have HB6 := Lib.hid hb6; have HL6 := Lib.hid (blk_grown HL9'.out hg6 (Kd.R_ne HO9'.out HL9'.out (by decide))); clear ho6 hb6 hg6 hat6))
          have hxs := HDL.out
          go_roundw
          case rel => exact ⟨j + 1, _, by omega, by first | go_num | (simp only [IntWalk.wrap64_in ((j : Int) + 1) ⟨by omega, by omega⟩]; go_num), rfl, HDN, Lib.hid (by rw [List.take_add_one, HNV.out]; have := HO6.out; rwa [List.append_assoc] at this), HB6, HL6⟩
          case measure => first | (simp [intOf]; omega) | (simp only [IntWalk.wrap64_in ((j : Int) + 1) ⟨by omega, by omega⟩]; simp [intOf]; omega)
        · have hfull : x.f1.take j = x.f1 := List.take_of_length_le (by omega)
          have HUT := Lib.hid (show usd (C.f11.take (k + 1)) = usd (C.f11.take k) ++ [x.f0] ++ x.f1 by rw [usd_take HX.out, lkU, List.append_assoc]; rfl)
          have HAK := Lib.hid (show (C.f11.take (k + 1)).all (lkS C) = true from all_take_succ HX.out HA.out (by rw [HS1.out]; have := HD.out; rwa [hfull] at this))
          rw [hfull, ← HUT.out] at HO
          clear hfull
          obtain ⟨us, hus⟩ : ∃ us, us = usd (C.f11.take (k + 1)) := ⟨_, rfl⟩
          rw [← hus] at HO
          have HUS := Lib.hid hus
          clear hus
          obtain ⟨Au, cu, rfl⟩ := Kd.R_slice HO.out
          by_cases hlong : C.f10.length < us.length
          · have hres := Lib.hid (show b = false by rw [HBB.out]; exact linksB_marks (usd_long HAK.out (by rw [← HUS.out]; exact hlong)))
            have e9 : decide ((C.f10.length : Int) < (us.length : Int)) = true := decide_eq_true (by omega)
            go_wp2
            go_ret
            exact ⟨ret_bool hres.out.symm, (below_step HB0.out HB.out)⟩
          have e9 : decide ((C.f10.length : Int) < (us.length : Int)) = false := decide_eq_false (by omega)
          go_wp2
          go_roundw
          case rel => exact ⟨k + 1, _, by omega, by go_num, rfl, HAK, Lib.hid (by rw [← HUS.out]; omega), Lib.hid (by rw [← HUS.out]; exact HO.out), HB⟩
          case measure => simp [intOf]; omega
    · have hfull : C.f11.take k = C.f11 := List.take_of_length_le (by omega)
      rw [hfull] at HA HO HLE
      obtain ⟨us, hus⟩ : ∃ us, us = usd C.f11 := ⟨_, rfl⟩
      rw [← hus] at HO HLE
      have HUS := Lib.hid hus
      clear hus hfull
      obtain ⟨Au, cu, rfl, -, hCu⟩ := Kd.R_reads HO.out
      have HCU := Lib.hid hCu
      clear hCu
      have hmk := Lib.hid (usd_counts HA.out)
      rw [← HUS.out] at hmk
      obtain ⟨-, -, -, -, -, -, -, -, -, -, g10, g11⟩ := cfg_cells HC.out
      go_wp2
      clear g11
      go_loop [8] (fun i => ∃ n : Nat, n ≤ C.f10.length ∧ i = .int .i64 n ∧ Hid (∀ m : Nat, m < n → us.count (m : Int) ≤ 1)) (fun i => C.f10.length - (intOf i).toNat)
      case atStart => exact ⟨0, by omega, rfl, Lib.hid (fun m h => by omega)⟩
      case round => as_aux_lemma =>
        obtain ⟨n, hn, rfl, HN1⟩ := hrel
        by_cases hltn : n < C.f10.length
        · obtain ⟨ct, hct⟩ : ∃ ct, ct = us.count (n : Int) := ⟨_, rfl⟩
          have HCT := Lib.hid hct
          clear hct
          have elt : decide ((n : Int) < (C.f10.length : Int)) = true := decide_eq_true (by omega)
          go_wp2_with fail
          refine (count_calls _ _ _ _ _ HCU.out).mono ?_
          rintro e w' ⟨rfl, rfl⟩
          rw [← HCT.out]
          by_cases hc1 : ct ≤ 1
          · have HN2 := Lib.hid (count_max HN1.out (by rw [← HCT.out]; exact hc1))
            have ec : decide ((1 : Int) < (ct : Int)) = false := decide_eq_false (by omega)
            go_wp2
            go_round
            case rel => exact ⟨n + 1, by omega, by go_num, HN2⟩
            case measure => simp [intOf]; omega
          · have hres := Lib.hid (show b = false by rw [HBB.out]; exact linksB_marks (fun hm => hc1 (by rw [HCT.out]; exact hmk.out.1 hm n hltn)))
            have ec : decide ((1 : Int) < (ct : Int)) = true := decide_eq_true (by omega)
            go_wp2
            go_ret
            exact ⟨ret_bool hres.out.symm, (below_step HB0.out HB.out)⟩
        · have HM := Lib.hid (show (marks C).isSome = true from hmk.out.2 (fun m hm => HN1.out m (by omega)))
          have hbw := Lib.hid (show b = (prs C.f11.length).all (lkOk C) by rw [hbv.out, HM.out, Bool.true_and])
          have elt : decide ((n : Int) < (C.f10.length : Int)) = false := decide_eq_false (by omega)
          go_wp2
          clear g10 elt
          go_loopw [9] (fun i W => ∃ k : Nat, k ≤ C.f11.length ∧ i = .int .i64 k ∧ Hid ((pTo C.f11.length k 0).all (lkOk C) = true) ∧ Hid (Below W1.heap.size W1 W)) (fun i _ => C.f11.length - (intOf i).toNat)
          case atStart => exact ⟨0, by omega, rfl, Lib.hid (by rw [pTo_zero]; rfl), HB⟩
          case round => as_aux_lemma =>
            clear HB HC HO HA HLE HCU hmk HUS HN1 hn hltn hk hlt
            obtain ⟨k, hk, rfl, HA, HB⟩ := hrel
            have g11 := (cfg_cells (blk_keep HB.out HN.out)).2.2.2.2.2.2.2.2.2.2.2
            by_cases hlt : k < C.f11.length
            · have elt : decide ((k : Int) < (C.f11.length : Int)) = true := decide_eq_true (by omega)
              go_wp2
              clear g11 elt
              go_loopw [10] (fun i W => ∃ j : Nat, j ≤ k ∧ i = .int .i64 j ∧ Hid ((pTo C.f11.length k j).all (lkOk C) = true) ∧ Hid (Below W1.heap.size W1 W)) (fun i _ => k - (intOf i).toNat)
              case atStart => exact ⟨0, by omega, rfl, HA, HB⟩
              case round => as_aux_lemma =>
                clear HA HB
                obtain ⟨j, hj, rfl, HA, HB⟩ := hrel
                by_cases hlj : j < k
                · have elj : decide ((j : Int) < (k : Int)) = true := decide_eq_true (by omega)
                  have HC := Lib.hid (blk_keep HB.out HN.out)
                  have HRw := Lib.hid (HR.out.below (below_step HB0.out HB.out))
                  obtain ⟨ad, x, Ax, cx, e11, x0, x1, x2, -, -, HX⟩ := at_K HRw.out.2.2.2.2.2 k hlt
                  cases e11
                  obtain ⟨ad', y, Ay, cy, e11, y0, y1, y2, -, -, HY⟩ := at_K HRw.out.2.2.2.2.2 j (by omega)
                  cases e11
                  obtain ⟨na, s, ps, p, ea, hs, eps, hpp, o0, o1, z0, z1, -⟩ := link_valid HP.out HM.out (List.mem_of_getElem? HX.out)
                  obtain ⟨nb, t, pt, q, eb, ht, ept, hqq, o2, o3, z2, z3, -⟩ := link_valid HP.out HM.out (List.mem_of_getElem? HY.out)
                  have hpr := Lib.hid (show lkOk C ⟨⟨k, hlt⟩, ⟨j, hlj⟩⟩ = !(decide (q.f0 = p.f0) && meetB y.f2 (y.f2 + 1 + t.f3) x.f2 (x.f2 + 1 + s.f3)) by
                    simp only [lkOk]; rw [HX.out, HY.out]; simp only [lkClash]; rw [ea, eb, Int.toNat_natCast, Int.toNat_natCast, hs, ht]; simp only; rw [eps, ept, Int.toNat_natCast, Int.toNat_natCast, hpp, hqq])
                  have hna := (List.getElem?_eq_some_iff.1 hs).1
                  have hnb := (List.getElem?_eq_some_iff.1 ht).1
                  have hps := (List.getElem?_eq_some_iff.1 hpp).1
                  have hpt := (List.getElem?_eq_some_iff.1 hqq).1
                  rw [show na = x.f0.toNat by omega] at hs
                  rw [show nb = y.f0.toNat by omega] at ht
                  rw [show ps = s.f0.toNat by omega] at hpp
                  rw [show pt = t.f0.toNat by omega] at hqq
                  have hx0 : 0 ≤ x.f0 ∧ x.f0 < C.f10.length := by omega
                  have hy0 : 0 ≤ y.f0 ∧ y.f0 < C.f10.length := by omega
                  have hs0 : 0 ≤ s.f0 ∧ s.f0 < C.f8.length := by omega
                  have ht0 : 0 ≤ t.f0 ∧ t.f0 < C.f8.length := by omega
                  clear ea eb eps ept hna hnb hps hpt
                  obtain ⟨hx0, hx1⟩ := hx0
                  obtain ⟨hy0, hy1⟩ := hy0
                  obtain ⟨hs0, hs1⟩ := hs0
                  obtain ⟨ht0, ht1⟩ := ht0
                  obtain ⟨ap, s', e10, s0, s1, s2, s3, s4, s5, HS⟩ := at_Q HRw.out.2.2.2.1.2 x.f0.toNat (by omega)
                  cases e10
                  obtain rfl : s = s' := by have := hs.symm.trans HS.out; injection this
                  obtain ⟨ap', t', e10, t0, t1, t2, t3, t4, t5, HT⟩ := at_Q HRw.out.2.2.2.1.2 y.f0.toNat (by omega)
                  cases e10
                  obtain rfl : t = t' := by have := ht.symm.trans HT.out; injection this
                  obtain ⟨aq, p', e8, p0, -, -, HPP⟩ := at_P HRw.out.2.1.2 s.f0.toNat (by omega)
                  cases e8
                  obtain rfl : p = p' := by have := hpp.symm.trans HPP.out; injection this
                  obtain ⟨aq', q', e8, q0, -, -, HQQ⟩ := at_P HRw.out.2.1.2 t.f0.toNat (by omega)
                  cases e8
                  obtain rfl : q = q' := by have := hqq.symm.trans HQQ.out; injection this
                  have bA : Below wr.heap.size wr (wr.alloc (Obj.cells #[.int .i64 x.f0, .slice Ax x.f1.length cx, .int .i64 x.f2] 61)) := (Below.refl _ _).alloc (Nat.le_refl _) _
                  have bB : Below wr.heap.size wr ((wr.alloc (Obj.cells #[.int .i64 x.f0, .slice Ax x.f1.length cx, .int .i64 x.f2] 61)).alloc (Obj.cells #[.int .i64 y.f0, .slice Ay y.f1.length cy, .int .i64 y.f2] 61)) := bA.alloc bA.size _
                  have bC : Below wr.heap.size wr (((wr.alloc (Obj.cells #[.int .i64 x.f0, .slice Ax x.f1.length cx, .int .i64 x.f2] 61)).alloc (Obj.cells #[.int .i64 y.f0, .slice Ay y.f1.length cy, .int .i64 y.f2] 61)).alloc (Obj.cells #[.int .i64 s.f0, .int .i64 s.f1, .int .i64 s.f2, .int .i64 s.f3, .int .i64 s.f4, .int .i64 s.f5] 59)) := bB.alloc bB.size _
                  have bD : Below wr.heap.size wr ((((wr.alloc (Obj.cells #[.int .i64 x.f0, .slice Ax x.f1.length cx, .int .i64 x.f2] 61)).alloc (Obj.cells #[.int .i64 y.f0, .slice Ay y.f1.length cy, .int .i64 y.f2] 61)).alloc (Obj.cells #[.int .i64 s.f0, .int .i64 s.f1, .int .i64 s.f2, .int .i64 s.f3, .int .i64 s.f4, .int .i64 s.f5] 59)).alloc (Obj.cells #[.int .i64 t.f0, .int .i64 t.f1, .int .i64 t.f2, .int .i64 t.f3, .int .i64 t.f4, .int .i64 t.f5] 59)) := bC.alloc bC.size _
                  have HBD := Lib.hid (below_step HB.out bD)
                  have hlt0 := blk_lt HC.out
                  have cc11 := (cfg_cells HC.out).2.2.2.2.2.2.2.2.2.2.2
                  have a11 := (cfg_cells (blk_keep bA HC.out)).2.2.2.2.2.2.2.2.2.2.2
                  have b10 := (cfg_cells (blk_keep bB HC.out)).2.2.2.2.2.2.2.2.2.2.1
                  have cc10 := (cfg_cells (blk_keep bC HC.out)).2.2.2.2.2.2.2.2.2.2.1
                  have y0a := (bA.cell (World.block_lt_of_cell? _ _ y0)).trans y0
                  have y1a := (bA.cell (World.block_lt_of_cell? _ _ y1)).trans y1
                  have y2a := (bA.cell (World.block_lt_of_cell? _ _ y2)).trans y2
                  have s0b := (bB.cell (World.block_lt_of_cell? _ _ s0)).trans s0
                  have s1b := (bB.cell (World.block_lt_of_cell? _ _ s1)).trans s1
                  have s2b := (bB.cell (World.block_lt_of_cell? _ _ s2)).trans s2
                  have s3b := (bB.cell (World.block_lt_of_cell? _ _ s3)).trans s3
                  have s4b := (bB.cell (World.block_lt_of_cell? _ _ s4)).trans s4
                  have s5b := (bB.cell (World.block_lt_of_cell? _ _ s5)).trans s5
                  have t0c := (bC.cell (World.block_lt_of_cell? _ _ t0)).trans t0
                  have t1c := (bC.cell (World.block_lt_of_cell? _ _ t1)).trans t1
                  have t2c := (bC.cell (World.block_lt_of_cell? _ _ t2)).trans t2
                  have t3c := (bC.cell (World.block_lt_of_cell? _ _ t3)).trans t3
                  have t4c := (bC.cell (World.block_lt_of_cell? _ _ t4)).trans t4
                  have t5c := (bC.cell (World.block_lt_of_cell? _ _ t5)).trans t5
                  have g8 := (cfg_cells (blk_keep bD HC.out)).2.2.2.2.2.2.2.2.1
                  have pp := (bD.cell (World.block_lt_of_cell? _ _ p0)).trans p0
                  have qq := (bD.cell (World.block_lt_of_cell? _ _ q0)).trans q0
                  have hA : ((((wr.alloc (Obj.cells #[.int .i64 x.f0, .slice Ax x.f1.length cx, .int .i64 x.f2] 61)).alloc (Obj.cells #[.int .i64 y.f0, .slice Ay y.f1.length cy, .int .i64 y.f2] 61)).alloc (Obj.cells #[.int .i64 s.f0, .int .i64 s.f1, .int .i64 s.f2, .int .i64 s.f3, .int .i64 s.f4, .int .i64 s.f5] 59)).alloc (Obj.cells #[.int .i64 t.f0, .int .i64 t.f1, .int .i64 t.f2, .int .i64 t.f3, .int .i64 t.f4, .int .i64 t.f5] 59)).heap[wr.heap.size]? = some (Obj.cells #[.int .i64 x.f0, .slice Ax x.f1.length cx, .int .i64 x.f2] 61) := blk_alloc (blk_alloc (blk_alloc (blk_new wr _) _) _) _
                  have hB : ((((wr.alloc (Obj.cells #[.int .i64 x.f0, .slice Ax x.f1.length cx, .int .i64 x.f2] 61)).alloc (Obj.cells #[.int .i64 y.f0, .slice Ay y.f1.length cy, .int .i64 y.f2] 61)).alloc (Obj.cells #[.int .i64 s.f0, .int .i64 s.f1, .int .i64 s.f2, .int .i64 s.f3, .int .i64 s.f4, .int .i64 s.f5] 59)).alloc (Obj.cells #[.int .i64 t.f0, .int .i64 t.f1, .int .i64 t.f2, .int .i64 t.f3, .int .i64 t.f4, .int .i64 t.f5] 59)).heap[wr.heap.size + 1]? = some (Obj.cells #[.int .i64 y.f0, .slice Ay y.f1.length cy, .int .i64 y.f2] 61) := blk_alloc (blk_alloc (by have := blk_new (wr.alloc (Obj.cells #[.int .i64 x.f0, .slice Ax x.f1.length cx, .int .i64 x.f2] 61)) (Obj.cells #[.int .i64 y.f0, .slice Ay y.f1.length cy, .int .i64 y.f2] 61); rwa [World.size_alloc] at this) _) _
                  have hS : ((((wr.alloc (Obj.cells #[.int .i64 x.f0, .slice Ax x.f1.length cx, .int .i64 x.f2] 61)).alloc (Obj.cells #[.int .i64 y.f0, .slice Ay y.f1.length cy, .int .i64 y.f2] 61)).alloc (Obj.cells #[.int .i64 s.f0, .int .i64 s.f1, .int .i64 s.f2, .int .i64 s.f3, .int .i64 s.f4, .int .i64 s.f5] 59)).alloc (Obj.cells #[.int .i64 t.f0, .int .i64 t.f1, .int .i64 t.f2, .int .i64 t.f3, .int .i64 t.f4, .int .i64 t.f5] 59)).heap[wr.heap.size + 1 + 1]? = some (Obj.cells #[.int .i64 s.f0, .int .i64 s.f1, .int .i64 s.f2, .int .i64 s.f3, .int .i64 s.f4, .int .i64 s.f5] 59) := blk_alloc (by have := blk_new ((wr.alloc (Obj.cells #[.int .i64 x.f0, .slice Ax x.f1.length cx, .int .i64 x.f2] 61)).alloc (Obj.cells #[.int .i64 y.f0, .slice Ay y.f1.length cy, .int .i64 y.f2] 61)) (Obj.cells #[.int .i64 s.f0, .int .i64 s.f1, .int .i64 s.f2, .int .i64 s.f3, .int .i64 s.f4, .int .i64 s.f5] 59); rwa [World.size_alloc, World.size_alloc] at this) _
                  have hT : ((((wr.alloc (Obj.cells #[.int .i64 x.f0, .slice Ax x.f1.length cx, .int .i64 x.f2] 61)).alloc (Obj.cells #[.int .i64 y.f0, .slice Ay y.f1.length cy, .int .i64 y.f2] 61)).alloc (Obj.cells #[.int .i64 s.f0, .int .i64 s.f1, .int .i64 s.f2, .int .i64 s.f3, .int .i64 s.f4, .int .i64 s.f5] 59)).alloc (Obj.cells #[.int .i64 t.f0, .int .i64 t.f1, .int .i64 t.f2, .int .i64 t.f3, .int .i64 t.f4, .int .i64 t.f5] 59)).heap[wr.heap.size + 1 + 1 + 1]? = some (Obj.cells #[.int .i64 t.f0, .int .i64 t.f1, .int .i64 t.f2, .int .i64 t.f3, .int .i64 t.f4, .int .i64 t.f5] 59) := by have := blk_new (((wr.alloc (Obj.cells #[.int .i64 x.f0, .slice Ax x.f1.length cx, .int .i64 x.f2] 61)).alloc (Obj.cells #[.int .i64 y.f0, .slice Ay y.f1.length cy, .int .i64 y.f2] 61)).alloc (Obj.cells #[.int .i64 s.f0, .int .i64 s.f1, .int .i64 s.f2, .int .i64 s.f3, .int .i64 s.f4, .int .i64 s.f5] 59)) (Obj.cells #[.int .i64 t.f0, .int .i64 t.f1, .int .i64 t.f2, .int .i64 t.f3, .int .i64 t.f4, .int .i64 t.f5] 59); rwa [World.size_alloc, World.size_alloc, World.size_alloc] at this
                  have A2 := blk_cell hA 2
                  have B2 := blk_cell hB 2
                  have P0 := blk_cell hS 0
                  have P3 := blk_cell hS 3
                  have Q0 := blk_cell hT 0
                  have Q3 := blk_cell hT 3
                  have w1 : IntKind.i64.wrap (x.f2 + 1) = x.f2 + 1 := IntWalk.i64_in _ (by omega)
                  have w2 : IntKind.i64.wrap (x.f2 + 1 + s.f3) = x.f2 + 1 + s.f3 := IntWalk.i64_in _ (by omega)
                  have w3 : IntKind.i64.wrap (y.f2 + 1) = y.f2 + 1 := IntWalk.i64_in _ (by omega)
                  have w4 : IntKind.i64.wrap (y.f2 + 1 + t.f3) = y.f2 + 1 + t.f3 := IntWalk.i64_in _ (by omega)
                  have HO4 := Lib.hid (⟨o0, o1, z0, z1⟩ : 0 ≤ x.f2 ∧ x.f2 ≤ 63 - s.f3 ∧ 1 ≤ s.f3 ∧ s.f3 ≤ 32)
                  clear hA hB hS hT bA bB bC bD hs ht hpp hqq o0 o1 o2 o3 z0 z1 z2 z3
                  go_wp2
                  clear cc11 a11 b10 cc10 hlt0 x0 x1 x2 y0 y1 y2 y0a y1a y2a s0 s1 s2 s3 s4 s5 t0 t1 t2 t3 t4 t5 s0b s1b s2b s3b s4b s5b t0c t1c t2c t3c t4c t5c p0 q0 elj
                  generalize hWD : ((((wr.alloc (Obj.cells #[.int .i64 x.f0, .slice Ax x.f1.length cx, .int .i64 x.f2] 61)).alloc (Obj.cells #[.int .i64 y.f0, .slice Ay y.f1.length cy, .int .i64 y.f2] 61)).alloc (Obj.cells #[.int .i64 s.f0, .int .i64 s.f1, .int .i64 s.f2, .int .i64 s.f3, .int .i64 s.f4, .int .i64 s.f5] 59)).alloc (Obj.cells #[.int .i64 t.f0, .int .i64 t.f1, .int .i64 t.f2, .int .i64 t.f3, .int .i64 t.f4, .int .i64 t.f5] 59)) = Wd0 at *
                  clear hWD
                  have hst := Lib.hid (pTo_step hlt hlj)
                  have hno := Lib.hid (show lkOk C ⟨⟨k, hlt⟩, ⟨j, hlj⟩⟩ = false → b = false from fun h => by
                    rw [hbw.out]
                    refine prefix_all (pTo_prefix hlt (show j + 1 ≤ k by omega)) ?_
                    rw [hst.out, List.all_append]
                    simp [h])
                  have hyes := Lib.hid (show lkOk C ⟨⟨k, hlt⟩, ⟨j, hlj⟩⟩ = true → (pTo C.f11.length k (j + 1)).all (lkOk C) = true from fun h => by
                    rw [hst.out]
                    exact all_snoc HA.out h)
                  by_cases hn : p.f0 = q.f0
                  case neg =>
                    have en : (p.f0 == q.f0) = false := by simpa using hn
                    have HS2 := Lib.hid (hyes.out (by rw [hpr.out, decide_eq_false (fun h => hn h.symm)]; rfl))
                    clear hn
                    apply region_z (N := 34) (ds := []) #[false, false, false, false, false, false, false, false, false, false, false, false, false, false, false, false, false, false, false, false, false, false, false, false, false, false, false, false, false, false, false, false, false, false]
                    · kernel_rfl
                    · rfl
                    · rfl
                    · intro Wd hS
                      refine pure_ (i := 0) (N := some 193) (v := ?_) (a' := ?_) #[true, false, false, false, false, false, false, false, false, false, false, false, false, false, false, false, false, false, false, false, false, false, false, false, false, false, false, false, false, false, false, false, false, false] rfl rfl (by kernel_rfl) (fun _ _ _ h => by cases h.1) (Or.inl ⟨by rfl, ?_⟩) ?_ ?_
                      rotate_left
                      · intro w'
                        go_simp
                        with_reducible rfl
                      rotate_left
                      · simp only [Act.put, List.setIfInBounds_toArray, List.set_cons_zero, List.set_cons_succ]
                        rfl
                      refine take_ (i := 1) (N := some 194) (v := ?_) (a' := ?_) #[true, true, false, false, false, false, false, false, false, false, false, false, false, false, false, false, false, false, false, false, false, false, false, false, false, false, false, false, false, false, false, false, false, false] rfl rfl (by kernel_rfl) (fun _ _ _ h => by cases h.1) (Or.inl ⟨by rfl, ?_⟩) hS ?_ ?_
                      rotate_left
                      · intro w' hb
                        have s0 := hb.cell g8
                        go_simp
                        with_reducible rfl
                      rotate_left
                      · simp only [Act.put, List.setIfInBounds_toArray, List.set_cons_zero, List.set_cons_succ]
                        rfl
                      refine pure_ (i := 2) (N := some 195) (v := ?_) (a' := ?_) #[true, true, true, false, false, false, false, false, false, false, false, false, false, false, false, false, false, false, false, false, false, false, false, false, false, false, false, false, false, false, false, false, false, false] rfl rfl (by kernel_rfl) (fun _ _ _ h => by cases h.1) (Or.inl ⟨by rfl, ?_⟩) ?_ ?_
                      rotate_left
                      · intro w'
                        go_simp
                        with_reducible rfl
                      rotate_left
                      · simp only [Act.put, List.setIfInBounds_toArray, List.set_cons_zero, List.set_cons_succ]
                        rfl
                      refine take_ (i := 3) (N := some 196) (v := ?_) (a' := ?_) #[true, true, true, true, false, false, false, false, false, false, false, false, false, false, false, false, false, false, false, false, false, false, false, false, false, false, false, false, false, false, false, false, false, false] rfl rfl (by kernel_rfl) (fun _ _ _ h => by cases h.1) (Or.inl ⟨by rfl, ?_⟩) hS ?_ ?_
                      rotate_left
                      · intro w' hb
                        have s0 := hb.cell P0
                        go_simp
                        with_reducible rfl
                      rotate_left
                      · simp only [Act.put, List.setIfInBounds_toArray, List.set_cons_zero, List.set_cons_succ]
                        rfl
                      refine pure_ (i := 4) (N := some 197) (v := ?_) (a' := ?_) #[true, true, true, true, true, false, false, false, false, false, false, false, false, false, false, false, false, false, false, false, false, false, false, false, false, false, false, false, false, false, false, false, false, false] rfl rfl (by kernel_rfl) (fun _ _ _ h => by cases h.1) (Or.inl ⟨by rfl, ?_⟩) ?_ ?_
                      rotate_left
                      · intro w'
                        go_simp
                        with_reducible rfl
                      rotate_left
                      · simp only [Act.put, List.setIfInBounds_toArray, List.set_cons_zero, List.set_cons_succ]
                        rfl
                      refine pure_ (i := 5) (N := some 198) (v := ?_) (a' := ?_) #[true, true, true, true, true, true, false, false, false, false, false, false, false, false, false, false, false, false, false, false, false, false, false, false, false, false, false, false, false, false, false, false, false, false] rfl rfl (by kernel_rfl) (fun _ _ _ h => by cases h.1) (Or.inl ⟨by rfl, ?_⟩) ?_ ?_
                      rotate_left
                      · intro w'
                        go_simp
                        with_reducible rfl
                      rotate_left
                      · simp only [Act.put, List.setIfInBounds_toArray, List.set_cons_zero, List.set_cons_succ]
                        rfl
                      refine take_ (i := 6) (N := some 199) (v := ?_) (a' := ?_) #[true, true, true, true, true, true, true, false, false, false, false, false, false, false, false, false, false, false, false, false, false, false, false, false, false, false, false, false, false, false, false, false, false, false] rfl rfl (by kernel_rfl) (fun _ _ _ h => by cases h.1) (Or.inl ⟨by rfl, ?_⟩) hS ?_ ?_
                      rotate_left
                      · intro w' hb
                        have s0 := hb.cell pp
                        go_simp
                        with_reducible rfl
                      rotate_left
                      · simp only [Act.put, List.setIfInBounds_toArray, List.set_cons_zero, List.set_cons_succ]
                        rfl
                      refine pure_ (i := 7) (N := some 200) (v := ?_) (a' := ?_) #[true, true, true, true, true, true, true, true, false, false, false, false, false, false, false, false, false, false, false, false, false, false, false, false, false, false, false, false, false, false, false, false, false, false] rfl rfl (by kernel_rfl) (fun _ _ _ h => by cases h.1) (Or.inl ⟨by rfl, ?_⟩) ?_ ?_
                      rotate_left
                      · intro w'
                        go_simp
                        with_reducible rfl
                      rotate_left
                      · simp only [Act.put, List.setIfInBounds_toArray, List.set_cons_zero, List.set_cons_succ]
                        rfl
                      refine take_ (i := 8) (N := some 201) (v := ?_) (a' := ?_) #[true, true, true, true, true, true, true, true, true, false, false, false, false, false, false, false, false, false, false, false, false, false, false, false, false, false, false, false, false, false, false, false, false, false] rfl rfl (by kernel_rfl) (fun _ _ _ h => by cases h.1) (Or.inl ⟨by rfl, ?_⟩) hS ?_ ?_
                      rotate_left
                      · intro w' hb
                        have s0 := hb.cell g8
                        go_simp
                        with_reducible rfl
                      rotate_left
                      · simp only [Act.put, List.setIfInBounds_toArray, List.set_cons_zero, List.set_cons_succ]
                        rfl
                      refine pure_ (i := 9) (N := some 202) (v := ?_) (a' := ?_) #[true, true, true, true, true, true, true, true, true, true, false, false, false, false, false, false, false, false, false, false, false, false, false, false, false, false, false, false, false, false, false, false, false, false] rfl rfl (by kernel_rfl) (fun _ _ _ h => by cases h.1) (Or.inl ⟨by rfl, ?_⟩) ?_ ?_
                      rotate_left
                      · intro w'
                        go_simp
                        with_reducible rfl
                      rotate_left
                      · simp only [Act.put, List.setIfInBounds_toArray, List.set_cons_zero, List.set_cons_succ]
                        rfl
                      refine take_ (i := 10) (N := some 203) (v := ?_) (a' := ?_) #[true, true, true, true, true, true, true, true, true, true, true, false, false, false, false, false, false, false, false, false, false, false, false, false, false, false, false, false, false, false, false, false, false, false] rfl rfl (by kernel_rfl) (fun _ _ _ h => by cases h.1) (Or.inl ⟨by rfl, ?_⟩) hS ?_ ?_
                      rotate_left
                      · intro w' hb
                        have s0 := hb.cell Q0
                        go_simp
                        with_reducible rfl
                      rotate_left
                      · simp only [Act.put, List.setIfInBounds_toArray, List.set_cons_zero, List.set_cons_succ]
                        rfl
                      refine pure_ (i := 11) (N := some 204) (v := ?_) (a' := ?_) #[true, true, true, true, true, true, true, true, true, true, true, true, false, false, false, false, false, false, false, false, false, false, false, false, false, false, false, false, false, false, false, false, false, false] rfl rfl (by kernel_rfl) (fun _ _ _ h => by cases h.1) (Or.inl ⟨by rfl, ?_⟩) ?_ ?_
                      rotate_left
                      · intro w'
                        go_simp
                        with_reducible rfl
                      rotate_left
                      · simp only [Act.put, List.setIfInBounds_toArray, List.set_cons_zero, List.set_cons_succ]
                        rfl
                      refine pure_ (i := 12) (N := some 205) (v := ?_) (a' := ?_) #[true, true, true, true, true, true, true, true, true, true, true, true, true, false, false, false, false, false, false, false, false, false, false, false, false, false, false, false, false, false, false, false, false, false] rfl rfl (by kernel_rfl) (fun _ _ _ h => by cases h.1) (Or.inl ⟨by rfl, ?_⟩) ?_ ?_
                      rotate_left
                      · intro w'
                        go_simp
                        with_reducible rfl
                      rotate_left
                      · simp only [Act.put, List.setIfInBounds_toArray, List.set_cons_zero, List.set_cons_succ]
                        rfl
                      refine take_ (i := 13) (N := some 206) (v := ?_) (a' := ?_) #[true, true, true, true, true, true, true, true, true, true, true, true, true, true, false, false, false, false, false, false, false, false, false, false, false, false, false, false, false, false, false, false, false, false] rfl rfl (by kernel_rfl) (fun _ _ _ h => by cases h.1) (Or.inl ⟨by rfl, ?_⟩) hS ?_ ?_
                      rotate_left
                      · intro w' hb
                        have s0 := hb.cell qq
                        go_simp
                        with_reducible rfl
                      rotate_left
                      · simp only [Act.put, List.setIfInBounds_toArray, List.set_cons_zero, List.set_cons_succ]
                        rfl
                      refine pure_ (i := 14) (N := some 207) (v := ?_) (a' := ?_) #[true, true, true, true, true, true, true, true, true, true, true, true, true, true, true, false, false, false, false, false, false, false, false, false, false, false, false, false, false, false, false, false, false, false] rfl rfl (by kernel_rfl) (fun _ _ _ h => by cases h.1) (Or.inl ⟨by rfl, ?_⟩) ?_ ?_
                      rotate_left
                      · intro w'
                        go_simp
                        with_reducible rfl
                      rotate_left
                      · simp only [Act.put, List.setIfInBounds_toArray, List.set_cons_zero, List.set_cons_succ]
                        rfl
                      refine pure_ (i := 15) (N := some 208) (v := ?_) (a' := ?_) #[true, true, true, true, true, true, true, true, true, true, true, true, true, true, true, true, false, false, false, false, false, false, false, false, false, false, false, false, false, false, false, false, false, false] rfl rfl (by kernel_rfl) (fun _ _ _ h => by cases h.1) (Or.inl ⟨by rfl, ?_⟩) ?_ ?_
                      rotate_left
                      · intro w'
                        go_simp
                        with_reducible rfl
                      rotate_left
                      · simp only [Act.put, List.setIfInBounds_toArray, List.set_cons_zero, List.set_cons_succ]
                        rfl
                      refine pure_ (i := 16) (N := some 209) (v := undef) (a' := ?_) #[true, true, true, true, true, true, true, true, true, true, true, true, true, true, true, true, true, false, false, false, false, false, false, false, false, false, false, false, false, false, false, false, false, false] rfl rfl (by kernel_rfl) (fun _ _ _ h => by cases h.1) (Or.inr ⟨by rfl, rfl⟩) ?_ ?_
                      rotate_left
                      · simp only [Act.put, List.setIfInBounds_toArray, List.set_cons_zero, List.set_cons_succ]
                        rfl
                      refine pure_ (i := 17) (N := some 210) (v := undef) (a' := ?_) #[true, true, true, true, true, true, true, true, true, true, true, true, true, true, true, true, true, true, false, false, false, false, false, false, false, false, false, false, false, false, false, false, false, false] rfl rfl (by kernel_rfl) (fun _ _ _ h => by cases h.1) (Or.inr ⟨by rfl, rfl⟩) ?_ ?_
                      rotate_left
                      · simp only [Act.put, List.setIfInBounds_toArray, List.set_cons_zero, List.set_cons_succ]
                        rfl
                      refine pure_ (i := 18) (N := some 211) (v := undef) (a' := ?_) #[true, true, true, true, true, true, true, true, true, true, true, true, true, true, true, true, true, true, true, false, false, false, false, false, false, false, false, false, false, false, false, false, false, false] rfl rfl (by kernel_rfl) (fun _ _ _ h => by cases h.1) (Or.inr ⟨by rfl, rfl⟩) ?_ ?_
                      rotate_left
                      · simp only [Act.put, List.setIfInBounds_toArray, List.set_cons_zero, List.set_cons_succ]
                        rfl
                      refine pure_ (i := 19) (N := some 212) (v := undef) (a' := ?_) #[true, true, true, true, true, true, true, true, true, true, true, true, true, true, true, true, true, true, true, true, false, false, false, false, false, false, false, false, false, false, false, false, false, false] rfl rfl (by kernel_rfl) (fun _ _ _ h => by cases h.1) (Or.inr ⟨by rfl, rfl⟩) ?_ ?_
                      rotate_left
                      · simp only [Act.put, List.setIfInBounds_toArray, List.set_cons_zero, List.set_cons_succ]
                        rfl
                      refine pure_ (i := 20) (N := some 213) (v := undef) (a' := ?_) #[true, true, true, true, true, true, true, true, true, true, true, true, true, true, true, true, true, true, true, true, true, false, false, false, false, false, false, false, false, false, false, false, false, false] rfl rfl (by kernel_rfl) (fun _ _ _ h => by cases h.1) (Or.inr ⟨by rfl, rfl⟩) ?_ ?_
                      rotate_left
                      · simp only [Act.put, List.setIfInBounds_toArray, List.set_cons_zero, List.set_cons_succ]
                        rfl
                      refine pure_ (i := 21) (N := some 214) (v := undef) (a' := ?_) #[true, true, true, true, true, true, true, true, true, true, true, true, true, true, true, true, true, true, true, true, true, true, false, false, false, false, false, false, false, false, false, false, false, false] rfl rfl (by kernel_rfl) (fun _ _ _ h => by cases h.1) (Or.inr ⟨by rfl, rfl⟩) ?_ ?_
                      rotate_left
                      · simp only [Act.put, List.setIfInBounds_toArray, List.set_cons_zero, List.set_cons_succ]
                        rfl
                      refine pure_ (i := 22) (N := some 215) (v := undef) (a' := ?_) #[true, true, true, true, true, true, true, true, true, true, true, true, true, true, true, true, true, true, true, true, true, true, true, false, false, false, false, false, false, false, false, false, false, false] rfl rfl (by kernel_rfl) (fun _ _ _ h => by cases h.1) (Or.inr ⟨by rfl, rfl⟩) ?_ ?_
                      rotate_left
                      · simp only [Act.put, List.setIfInBounds_toArray, List.set_cons_zero, List.set_cons_succ]
                        rfl
                      refine pure_ (i := 23) (N := some 216) (v := undef) (a' := ?_) #[true, true, true, true, true, true, true, true, true, true, true, true, true, true, true, true, true, true, true, true, true, true, true, true, false, false, false, false, false, false, false, false, false, false] rfl rfl (by kernel_rfl) (fun _ _ _ h => by cases h.1) (Or.inr ⟨by rfl, rfl⟩) ?_ ?_
                      rotate_left
                      · simp only [Act.put, List.setIfInBounds_toArray, List.set_cons_zero, List.set_cons_succ]
                        rfl
                      refine pure_ (i := 24) (N := some 217) (v := undef) (a' := ?_) #[true, true, true, true, true, true, true, true, true, true, true, true, true, true, true, true, true, true, true, true, true, true, true, true, true, false, false, false, false, false, false, false, false, false] rfl rfl (by kernel_rfl) (fun _ _ _ h => by cases h.1) (Or.inr ⟨by rfl, rfl⟩) ?_ ?_
                      rotate_left
                      · simp only [Act.put, List.setIfInBounds_toArray, List.set_cons_zero, List.set_cons_succ]
                        rfl
                      refine pure_ (i := 25) (N := some 218) (v := undef) (a' := ?_) #[true, true, true, true, true, true, true, true, true, true, true, true, true, true, true, true, true, true, true, true, true, true, true, true, true, true, false, false, false, false, false, false, false, false] rfl rfl (by kernel_rfl) (fun _ _ _ h => by cases h.1) (Or.inr ⟨by rfl, rfl⟩) ?_ ?_
                      rotate_left
                      · simp only [Act.put, List.setIfInBounds_toArray, List.set_cons_zero, List.set_cons_succ]
                        rfl
                      refine pure_ (i := 26) (N := some 219) (v := undef) (a' := ?_) #[true, true, true, true, true, true, true, true, true, true, true, true, true, true, true, true, true, true, true, true, true, true, true, true, true, true, true, false, false, false, false, false, false, false] rfl rfl (by kernel_rfl) (fun _ _ _ h => by cases h.1) (Or.inr ⟨by rfl, rfl⟩) ?_ ?_
                      rotate_left
                      · simp only [Act.put, List.setIfInBounds_toArray, List.set_cons_zero, List.set_cons_succ]
                        rfl
                      refine pure_ (i := 27) (N := some 220) (v := undef) (a' := ?_) #[true, true, true, true, true, true, true, true, true, true, true, true, true, true, true, true, true, true, true, true, true, true, true, true, true, true, true, true, false, false, false, false, false, false] rfl rfl (by kernel_rfl) (fun _ _ _ h => by cases h.1) (Or.inr ⟨by rfl, rfl⟩) ?_ ?_
                      rotate_left
                      · simp only [Act.put, List.setIfInBounds_toArray, List.set_cons_zero, List.set_cons_succ]
                        rfl
                      refine pure_ (i := 28) (N := some 221) (v := undef) (a' := ?_) #[true, true, true, true, true, true, true, true, true, true, true, true, true, true, true, true, true, true, true, true, true, true, true, true, true, true, true, true, true, false, false, false, false, false] rfl rfl (by kernel_rfl) (fun _ _ _ h => by cases h.1) (Or.inr ⟨by rfl, rfl⟩) ?_ ?_
                      rotate_left
                      · simp only [Act.put, List.setIfInBounds_toArray, List.set_cons_zero, List.set_cons_succ]
                        rfl
                      refine pure_ (i := 29) (N := some 222) (v := undef) (a' := ?_) #[true, true, true, true, true, true, true, true, true, true, true, true, true, true, true, true, true, true, true, true, true, true, true, true, true, true, true, true, true, true, false, false, false, false] rfl rfl (by kernel_rfl) (fun _ _ _ h => by cases h.1) (Or.inr ⟨by rfl, rfl⟩) ?_ ?_
                      rotate_left
                      · simp only [Act.put, List.setIfInBounds_toArray, List.set_cons_zero, List.set_cons_succ]
                        rfl
                      refine pure_ (i := 30) (N := some 223) (v := undef) (a' := ?_) #[true, true, true, true, true, true, true, true, true, true, true, true, true, true, true, true, true, true, true, true, true, true, true, true, true, true, true, true, true, true, true, false, false, false] rfl rfl (by kernel_rfl) (fun _ _ _ h => by cases h.1) (Or.inr ⟨by rfl, rfl⟩) ?_ ?_
                      rotate_left
                      · simp only [Act.put, List.setIfInBounds_toArray, List.set_cons_zero, List.set_cons_succ]
                        rfl
                      refine pure_ (i := 31) (N := some 224) (v := undef) (a' := ?_) #[true, true, true, true, true, true, true, true, true, true, true, true, true, true, true, true, true, true, true, true, true, true, true, true, true, true, true, true, true, true, true, true, false, false] rfl rfl (by kernel_rfl) (fun _ _ _ h => by cases h.1) (Or.inr ⟨by rfl, rfl⟩) ?_ ?_
                      rotate_left
                      · simp only [Act.put, List.setIfInBounds_toArray, List.set_cons_zero, List.set_cons_succ]
                        rfl
                      refine pure_ (i := 32) (N := some 225) (v := undef) (a' := ?_) #[true, true, true, true, true, true, true, true, true, true, true, true, true, true, true, true, true, true, true, true, true, true, true, true, true, true, true, true, true, true, true, true, true, false] rfl rfl (by kernel_rfl) (fun _ _ _ h => by cases h.1) (Or.inr ⟨by rfl, rfl⟩) ?_ ?_
                      rotate_left
                      · simp only [Act.put, List.setIfInBounds_toArray, List.set_cons_zero, List.set_cons_succ]
                        rfl
                      refine pure_ (i := 33) (N := some 226) (v := ?_) (a' := ?_) #[true, true, true, true, true, true, true, true, true, true, true, true, true, true, true, true, true, true, true, true, true, true, true, true, true, true, true, true, true, true, true, true, true, true] rfl rfl (by kernel_rfl) (fun _ _ _ h => by cases h.1) (Or.inl ⟨by rfl, ?_⟩) ?_ ?_
                      rotate_left
                      · intro w'
                        go_simp
                        with_reducible rfl
                      rotate_left
                      · simp only [Act.put, List.setIfInBounds_toArray, List.set_cons_zero, List.set_cons_succ]
                        rfl
                      refine done_ (by kernel_rfl) ?_
                      exact ⟨rfl, rfl, hS⟩
                    intro W9 hb
                    have HB9 := Lib.hid (below_step HBD.out hb)
                    clear hb
                    go_wp2
                    go_roundw
                    case rel => exact ⟨j + 1, by omega, by go_num, HS2, HB9⟩
                    case measure => simp [intOf]; omega
                  have en : (p.f0 == q.f0) = true := by simpa using hn
                  have HN2 := Lib.hid hn
                  clear hn
                  obtain ⟨m, hm⟩ : ∃ m, m = meetB x.f2 (x.f2 + 1 + s.f3) y.f2 (y.f2 + 1 + t.f3) := ⟨_, rfl⟩
                  have HMM := Lib.hid hm
                  clear hm
                  apply region_z (N := 34) (ds := []) #[false, false, false, false, false, false, false, false, false, false, false, false, false, false, false, false, false, false, false, false, false, false, false, false, false, false, false, false, false, false, false, false, false, false]
                  · kernel_rfl
                  · rfl
                  · rfl
                  · intro Wd hS
                    refine pure_ (i := 0) (N := some 193) (v := ?_) (a' := ?_) #[true, false, false, false, false, false, false, false, false, false, false, false, false, false, false, false, false, false, false, false, false, false, false, false, false, false, false, false, false, false, false, false, false, false] rfl rfl (by kernel_rfl) (fun _ _ _ h => by cases h.1) (Or.inl ⟨by rfl, ?_⟩) ?_ ?_
                    rotate_left
                    · intro w'
                      go_simp
                      with_reducible rfl
                    rotate_left
                    · simp only [Act.put, List.setIfInBounds_toArray, List.set_cons_zero, List.set_cons_succ]
                      rfl
                    refine take_ (i := 1) (N := some 194) (v := ?_) (a' := ?_) #[true, true, false, false, false, false, false, false, false, false, false, false, false, false, false, false, false, false, false, false, false, false, false, false, false, false, false, false, false, false, false, false, false, false] rfl rfl (by kernel_rfl) (fun _ _ _ h => by cases h.1) (Or.inl ⟨by rfl, ?_⟩) hS ?_ ?_
                    rotate_left
                    · intro w' hb
                      have s0 := hb.cell g8
                      go_simp
                      with_reducible rfl
                    rotate_left
                    · simp only [Act.put, List.setIfInBounds_toArray, List.set_cons_zero, List.set_cons_succ]
                      rfl
                    refine pure_ (i := 2) (N := some 195) (v := ?_) (a' := ?_) #[true, true, true, false, false, false, false, false, false, false, false, false, false, false, false, false, false, false, false, false, false, false, false, false, false, false, false, false, false, false, false, false, false, false] rfl rfl (by kernel_rfl) (fun _ _ _ h => by cases h.1) (Or.inl ⟨by rfl, ?_⟩) ?_ ?_
                    rotate_left
                    · intro w'
                      go_simp
                      with_reducible rfl
                    rotate_left
                    · simp only [Act.put, List.setIfInBounds_toArray, List.set_cons_zero, List.set_cons_succ]
                      rfl
                    refine take_ (i := 3) (N := some 196) (v := ?_) (a' := ?_) #[true, true, true, true, false, false, false, false, false, false, false, false, false, false, false, false, false, false, false, false, false, false, false, false, false, false, false, false, false, false, false, false, false, false] rfl rfl (by kernel_rfl) (fun _ _ _ h => by cases h.1) (Or.inl ⟨by rfl, ?_⟩) hS ?_ ?_
                    rotate_left
                    · intro w' hb
                      have s0 := hb.cell P0
                      go_simp
                      with_reducible rfl
                    rotate_left
                    · simp only [Act.put, List.setIfInBounds_toArray, List.set_cons_zero, List.set_cons_succ]
                      rfl
                    refine pure_ (i := 4) (N := some 197) (v := ?_) (a' := ?_) #[true, true, true, true, true, false, false, false, false, false, false, false, false, false, false, false, false, false, false, false, false, false, false, false, false, false, false, false, false, false, false, false, false, false] rfl rfl (by kernel_rfl) (fun _ _ _ h => by cases h.1) (Or.inl ⟨by rfl, ?_⟩) ?_ ?_
                    rotate_left
                    · intro w'
                      go_simp
                      with_reducible rfl
                    rotate_left
                    · simp only [Act.put, List.setIfInBounds_toArray, List.set_cons_zero, List.set_cons_succ]
                      rfl
                    refine pure_ (i := 5) (N := some 198) (v := ?_) (a' := ?_) #[true, true, true, true, true, true, false, false, false, false, false, false, false, false, false, false, false, false, false, false, false, false, false, false, false, false, false, false, false, false, false, false, false, false] rfl rfl (by kernel_rfl) (fun _ _ _ h => by cases h.1) (Or.inl ⟨by rfl, ?_⟩) ?_ ?_
                    rotate_left
                    · intro w'
                      go_simp
                      with_reducible rfl
                    rotate_left
                    · simp only [Act.put, List.setIfInBounds_toArray, List.set_cons_zero, List.set_cons_succ]
                      rfl
                    refine take_ (i := 6) (N := some 199) (v := ?_) (a' := ?_) #[true, true, true, true, true, true, true, false, false, false, false, false, false, false, false, false, false, false, false, false, false, false, false, false, false, false, false, false, false, false, false, false, false, false] rfl rfl (by kernel_rfl) (fun _ _ _ h => by cases h.1) (Or.inl ⟨by rfl, ?_⟩) hS ?_ ?_
                    rotate_left
                    · intro w' hb
                      have s0 := hb.cell pp
                      go_simp
                      with_reducible rfl
                    rotate_left
                    · simp only [Act.put, List.setIfInBounds_toArray, List.set_cons_zero, List.set_cons_succ]
                      rfl
                    refine pure_ (i := 7) (N := some 200) (v := ?_) (a' := ?_) #[true, true, true, true, true, true, true, true, false, false, false, false, false, false, false, false, false, false, false, false, false, false, false, false, false, false, false, false, false, false, false, false, false, false] rfl rfl (by kernel_rfl) (fun _ _ _ h => by cases h.1) (Or.inl ⟨by rfl, ?_⟩) ?_ ?_
                    rotate_left
                    · intro w'
                      go_simp
                      with_reducible rfl
                    rotate_left
                    · simp only [Act.put, List.setIfInBounds_toArray, List.set_cons_zero, List.set_cons_succ]
                      rfl
                    refine take_ (i := 8) (N := some 201) (v := ?_) (a' := ?_) #[true, true, true, true, true, true, true, true, true, false, false, false, false, false, false, false, false, false, false, false, false, false, false, false, false, false, false, false, false, false, false, false, false, false] rfl rfl (by kernel_rfl) (fun _ _ _ h => by cases h.1) (Or.inl ⟨by rfl, ?_⟩) hS ?_ ?_
                    rotate_left
                    · intro w' hb
                      have s0 := hb.cell g8
                      go_simp
                      with_reducible rfl
                    rotate_left
                    · simp only [Act.put, List.setIfInBounds_toArray, List.set_cons_zero, List.set_cons_succ]
                      rfl
                    refine pure_ (i := 9) (N := some 202) (v := ?_) (a' := ?_) #[true, true, true, true, true, true, true, true, true, true, false, false, false, false, false, false, false, false, false, false, false, false, false, false, false, false, false, false, false, false, false, false, false, false] rfl rfl (by kernel_rfl) (fun _ _ _ h => by cases h.1) (Or.inl ⟨by rfl, ?_⟩) ?_ ?_
                    rotate_left
                    · intro w'
                      go_simp
                      with_reducible rfl
                    rotate_left
                    · simp only [Act.put, List.setIfInBounds_toArray, List.set_cons_zero, List.set_cons_succ]
                      rfl
                    refine take_ (i := 10) (N := some 203) (v := ?_) (a' := ?_) #[true, true, true, true, true, true, true, true, true, true, true, false, false, false, false, false, false, false, false, false, false, false, false, false, false, false, false, false, false, false, false, false, false, false] rfl rfl (by kernel_rfl) (fun _ _ _ h => by cases h.1) (Or.inl ⟨by rfl, ?_⟩) hS ?_ ?_
                    rotate_left
                    · intro w' hb
                      have s0 := hb.cell Q0
                      go_simp
                      with_reducible rfl
                    rotate_left
                    · simp only [Act.put, List.setIfInBounds_toArray, List.set_cons_zero, List.set_cons_succ]
                      rfl
                    refine pure_ (i := 11) (N := some 204) (v := ?_) (a' := ?_) #[true, true, true, true, true, true, true, true, true, true, true, true, false, false, false, false, false, false, false, false, false, false, false, false, false, false, false, false, false, false, false, false, false, false] rfl rfl (by kernel_rfl) (fun _ _ _ h => by cases h.1) (Or.inl ⟨by rfl, ?_⟩) ?_ ?_
                    rotate_left
                    · intro w'
                      go_simp
                      with_reducible rfl
                    rotate_left
                    · simp only [Act.put, List.setIfInBounds_toArray, List.set_cons_zero, List.set_cons_succ]
                      rfl
                    refine pure_ (i := 12) (N := some 205) (v := ?_) (a' := ?_) #[true, true, true, true, true, true, true, true, true, true, true, true, true, false, false, false, false, false, false, false, false, false, false, false, false, false, false, false, false, false, false, false, false, false] rfl rfl (by kernel_rfl) (fun _ _ _ h => by cases h.1) (Or.inl ⟨by rfl, ?_⟩) ?_ ?_
                    rotate_left
                    · intro w'
                      go_simp
                      with_reducible rfl
                    rotate_left
                    · simp only [Act.put, List.setIfInBounds_toArray, List.set_cons_zero, List.set_cons_succ]
                      rfl
                    refine take_ (i := 13) (N := some 206) (v := ?_) (a' := ?_) #[true, true, true, true, true, true, true, true, true, true, true, true, true, true, false, false, false, false, false, false, false, false, false, false, false, false, false, false, false, false, false, false, false, false] rfl rfl (by kernel_rfl) (fun _ _ _ h => by cases h.1) (Or.inl ⟨by rfl, ?_⟩) hS ?_ ?_
                    rotate_left
                    · intro w' hb
                      have s0 := hb.cell qq
                      go_simp
                      with_reducible rfl
                    rotate_left
                    · simp only [Act.put, List.setIfInBounds_toArray, List.set_cons_zero, List.set_cons_succ]
                      rfl
                    refine pure_ (i := 14) (N := some 207) (v := ?_) (a' := ?_) #[true, true, true, true, true, true, true, true, true, true, true, true, true, true, true, false, false, false, false, false, false, false, false, false, false, false, false, false, false, false, false, false, false, false] rfl rfl (by kernel_rfl) (fun _ _ _ h => by cases h.1) (Or.inl ⟨by rfl, ?_⟩) ?_ ?_
                    rotate_left
                    · intro w'
                      go_simp
                      with_reducible rfl
                    rotate_left
                    · simp only [Act.put, List.setIfInBounds_toArray, List.set_cons_zero, List.set_cons_succ]
                      rfl
                    refine pure_ (i := 15) (N := some 208) (v := ?_) (a' := ?_) #[true, true, true, true, true, true, true, true, true, true, true, true, true, true, true, true, false, false, false, false, false, false, false, false, false, false, false, false, false, false, false, false, false, false] rfl rfl (by kernel_rfl) (fun _ _ _ h => by cases h.1) (Or.inl ⟨by rfl, ?_⟩) ?_ ?_
                    rotate_left
                    · intro w'
                      go_simp
                      with_reducible rfl
                    rotate_left
                    · simp only [Act.put, List.setIfInBounds_toArray, List.set_cons_zero, List.set_cons_succ]
                      rfl
                    refine pure_ (i := 16) (N := some 209) (v := ?_) (a' := ?_) #[true, true, true, true, true, true, true, true, true, true, true, true, true, true, true, true, true, false, false, false, false, false, false, false, false, false, false, false, false, false, false, false, false, false] rfl rfl (by kernel_rfl) (fun _ _ _ h => by cases h.1) (Or.inl ⟨by rfl, ?_⟩) ?_ ?_
                    rotate_left
                    · intro w'
                      go_simp
                      with_reducible rfl
                    rotate_left
                    · simp only [Act.put, List.setIfInBounds_toArray, List.set_cons_zero, List.set_cons_succ]
                      rfl
                    refine take_ (i := 17) (N := some 210) (v := ?_) (a' := ?_) #[true, true, true, true, true, true, true, true, true, true, true, true, true, true, true, true, true, true, false, false, false, false, false, false, false, false, false, false, false, false, false, false, false, false] rfl rfl (by kernel_rfl) (fun _ _ _ h => by cases h.1) (Or.inl ⟨by rfl, ?_⟩) hS ?_ ?_
                    rotate_left
                    · intro w' hb
                      have s0 := hb.cell A2
                      go_simp
                      with_reducible rfl
                    rotate_left
                    · simp only [Act.put, List.setIfInBounds_toArray, List.set_cons_zero, List.set_cons_succ]
                      rfl
                    refine pure_ (i := 18) (N := some 211) (v := ?_) (a' := ?_) #[true, true, true, true, true, true, true, true, true, true, true, true, true, true, true, true, true, true, true, false, false, false, false, false, false, false, false, false, false, false, false, false, false, false] rfl rfl (by kernel_rfl) (fun _ _ _ h => by cases h.1) (Or.inl ⟨by rfl, ?_⟩) ?_ ?_
                    rotate_left
                    · intro w'
                      go_simp
                      with_reducible rfl
                    rotate_left
                    · simp only [Act.put, List.setIfInBounds_toArray, List.set_cons_zero, List.set_cons_succ]
                      rfl
                    refine take_ (i := 19) (N := some 212) (v := ?_) (a' := ?_) #[true, true, true, true, true, true, true, true, true, true, true, true, true, true, true, true, true, true, true, true, false, false, false, false, false, false, false, false, false, false, false, false, false, false] rfl rfl (by kernel_rfl) (fun _ _ _ h => by cases h.1) (Or.inl ⟨by rfl, ?_⟩) hS ?_ ?_
                    rotate_left
                    · intro w' hb
                      have s0 := hb.cell A2
                      go_simp
                      with_reducible rfl
                    rotate_left
                    · simp only [Act.put, List.setIfInBounds_toArray, List.set_cons_zero, List.set_cons_succ]
                      rfl
                    refine pure_ (i := 20) (N := some 213) (v := ?_) (a' := ?_) #[true, true, true, true, true, true, true, true, true, true, true, true, true, true, true, true, true, true, true, true, true, false, false, false, false, false, false, false, false, false, false, false, false, false] rfl rfl (by kernel_rfl) (fun _ _ _ h => by cases h.1) (Or.inl ⟨by rfl, ?_⟩) ?_ ?_
                    rotate_left
                    · intro w'
                      go_simp
                      with_reducible rfl
                    rotate_left
                    · simp only [Act.put, List.setIfInBounds_toArray, List.set_cons_zero, List.set_cons_succ]
                      rfl
                    refine pure_ (i := 21) (N := some 214) (v := ?_) (a' := ?_) #[true, true, true, true, true, true, true, true, true, true, true, true, true, true, true, true, true, true, true, true, true, true, false, false, false, false, false, false, false, false, false, false, false, false] rfl rfl (by kernel_rfl) (fun _ _ _ h => by cases h.1) (Or.inl ⟨by rfl, ?_⟩) ?_ ?_
                    rotate_left
                    · intro w'
                      go_simp
                      with_reducible rfl
                    rotate_left
                    · simp only [Act.put, List.setIfInBounds_toArray, List.set_cons_zero, List.set_cons_succ]
                      rfl
                    refine take_ (i := 22) (N := some 215) (v := ?_) (a' := ?_) #[true, true, true, true, true, true, true, true, true, true, true, true, true, true, true, true, true, true, true, true, true, true, true, false, false, false, false, false, false, false, false, false, false, false] rfl rfl (by kernel_rfl) (fun _ _ _ h => by cases h.1) (Or.inl ⟨by rfl, ?_⟩) hS ?_ ?_
                    rotate_left
                    · intro w' hb
                      have s0 := hb.cell P3
                      go_simp
                      with_reducible rfl
                    rotate_left
                    · simp only [Act.put, List.setIfInBounds_toArray, List.set_cons_zero, List.set_cons_succ]
                      rfl
                    refine pure_ (i := 23) (N := some 216) (v := ?_) (a' := ?_) #[true, true, true, true, true, true, true, true, true, true, true, true, true, true, true, true, true, true, true, true, true, true, true, true, false, false, false, false, false, false, false, false, false, false] rfl rfl (by kernel_rfl) (fun _ _ _ h => by cases h.1) (Or.inl ⟨by rfl, ?_⟩) ?_ ?_
                    rotate_left
                    · intro w'
                      go_simp
                      with_reducible rfl
                    rotate_left
                    · simp only [Act.put, List.setIfInBounds_toArray, List.set_cons_zero, List.set_cons_succ]
                      rfl
                    refine pure_ (i := 24) (N := some 217) (v := ?_) (a' := ?_) #[true, true, true, true, true, true, true, true, true, true, true, true, true, true, true, true, true, true, true, true, true, true, true, true, true, false, false, false, false, false, false, false, false, false] rfl rfl (by kernel_rfl) (fun _ _ _ h => by cases h.1) (Or.inl ⟨by rfl, ?_⟩) ?_ ?_
                    rotate_left
                    · intro w'
                      go_simp
                      with_reducible rfl
                    rotate_left
                    · simp only [Act.put, List.setIfInBounds_toArray, List.set_cons_zero, List.set_cons_succ]
                      rfl
                    refine take_ (i := 25) (N := some 218) (v := ?_) (a' := ?_) #[true, true, true, true, true, true, true, true, true, true, true, true, true, true, true, true, true, true, true, true, true, true, true, true, true, true, false, false, false, false, false, false, false, false] rfl rfl (by kernel_rfl) (fun _ _ _ h => by cases h.1) (Or.inl ⟨by rfl, ?_⟩) hS ?_ ?_
                    rotate_left
                    · intro w' hb
                      have s0 := hb.cell B2
                      go_simp
                      with_reducible rfl
                    rotate_left
                    · simp only [Act.put, List.setIfInBounds_toArray, List.set_cons_zero, List.set_cons_succ]
                      rfl
                    refine pure_ (i := 26) (N := some 219) (v := ?_) (a' := ?_) #[true, true, true, true, true, true, true, true, true, true, true, true, true, true, true, true, true, true, true, true, true, true, true, true, true, true, true, false, false, false, false, false, false, false] rfl rfl (by kernel_rfl) (fun _ _ _ h => by cases h.1) (Or.inl ⟨by rfl, ?_⟩) ?_ ?_
                    rotate_left
                    · intro w'
                      go_simp
                      with_reducible rfl
                    rotate_left
                    · simp only [Act.put, List.setIfInBounds_toArray, List.set_cons_zero, List.set_cons_succ]
                      rfl
                    refine take_ (i := 27) (N := some 220) (v := ?_) (a' := ?_) #[true, true, true, true, true, true, true, true, true, true, true, true, true, true, true, true, true, true, true, true, true, true, true, true, true, true, true, true, false, false, false, false, false, false] rfl rfl (by kernel_rfl) (fun _ _ _ h => by cases h.1) (Or.inl ⟨by rfl, ?_⟩) hS ?_ ?_
                    rotate_left
                    · intro w' hb
                      have s0 := hb.cell B2
                      go_simp
                      with_reducible rfl
                    rotate_left
                    · simp only [Act.put, List.setIfInBounds_toArray, List.set_cons_zero, List.set_cons_succ]
                      rfl
                    refine pure_ (i := 28) (N := some 221) (v := ?_) (a' := ?_) #[true, true, true, true, true, true, true, true, true, true, true, true, true, true, true, true, true, true, true, true, true, true, true, true, true, true, true, true, true, false, false, false, false, false] rfl rfl (by kernel_rfl) (fun _ _ _ h => by cases h.1) (Or.inl ⟨by rfl, ?_⟩) ?_ ?_
                    rotate_left
                    · intro w'
                      go_simp
                      with_reducible rfl
                    rotate_left
                    · simp only [Act.put, List.setIfInBounds_toArray, List.set_cons_zero, List.set_cons_succ]
                      rfl
                    refine pure_ (i := 29) (N := some 222) (v := ?_) (a' := ?_) #[true, true, true, true, true, true, true, true, true, true, true, true, true, true, true, true, true, true, true, true, true, true, true, true, true, true, true, true, true, true, false, false, false, false] rfl rfl (by kernel_rfl) (fun _ _ _ h => by cases h.1) (Or.inl ⟨by rfl, ?_⟩) ?_ ?_
                    rotate_left
                    · intro w'
                      go_simp
                      with_reducible rfl
                    rotate_left
                    · simp only [Act.put, List.setIfInBounds_toArray, List.set_cons_zero, List.set_cons_succ]
                      rfl
                    refine take_ (i := 30) (N := some 223) (v := ?_) (a' := ?_) #[true, true, true, true, true, true, true, true, true, true, true, true, true, true, true, true, true, true, true, true, true, true, true, true, true, true, true, true, true, true, true, false, false, false] rfl rfl (by kernel_rfl) (fun _ _ _ h => by cases h.1) (Or.inl ⟨by rfl, ?_⟩) hS ?_ ?_
                    rotate_left
                    · intro w' hb
                      have s0 := hb.cell Q3
                      go_simp
                      with_reducible rfl
                    rotate_left
                    · simp only [Act.put, List.setIfInBounds_toArray, List.set_cons_zero, List.set_cons_succ]
                      rfl
                    refine pure_ (i := 31) (N := some 224) (v := ?_) (a' := ?_) #[true, true, true, true, true, true, true, true, true, true, true, true, true, true, true, true, true, true, true, true, true, true, true, true, true, true, true, true, true, true, true, true, false, false] rfl rfl (by kernel_rfl) (fun _ _ _ h => by cases h.1) (Or.inl ⟨by rfl, ?_⟩) ?_ ?_
                    rotate_left
                    · intro w'
                      go_simp
                      with_reducible rfl
                    rotate_left
                    · simp only [Act.put, List.setIfInBounds_toArray, List.set_cons_zero, List.set_cons_succ]
                      rfl
                    refine one_ (i := 32) (N := some 225) #[true, true, true, true, true, true, true, true, true, true, true, true, true, true, true, true, true, true, true, true, true, true, true, true, true, true, true, true, true, true, true, true, true, false] rfl rfl (by kernel_rfl) (by simp) (fun K hK => ?_)
                    go_simp
                    refine (rmeet_calls x.f2 (x.f2 + 1 + s.f3) y.f2 (y.f2 + 1 + t.f3) _ (by have := HO4.out; omega) (by have := HO4.out; omega)).mono ?_
                    rintro e u3 ⟨rfl, rfl⟩
                    rw [← HMM.out]
                    refine hK.out _ _ hS (fun _ => ?_)
                    clear hK K
                    refine pure_ (i := 33) (N := some 226) (v := ?_) (a' := ?_) #[true, true, true, true, true, true, true, true, true, true, true, true, true, true, true, true, true, true, true, true, true, true, true, true, true, true, true, true, true, true, true, true, true, true] rfl rfl (by kernel_rfl) (fun _ _ _ h => by cases h.1) (Or.inl ⟨by rfl, ?_⟩) ?_ ?_
                    rotate_left
                    · intro w'
                      go_simp
                      with_reducible rfl
                    rotate_left
                    · simp only [Act.put, List.setIfInBounds_toArray, List.set_cons_zero, List.set_cons_succ]
                      rfl
                    refine done_ (by kernel_rfl) ?_
                    exact ⟨rfl, rfl, hS⟩
                  intro W9 hb
                  have HB9 := Lib.hid (below_step HBD.out hb)
                  clear hb
                  have hpm := Lib.hid (show lkOk C ⟨⟨k, hlt⟩, ⟨j, hlj⟩⟩ = !m by rw [hpr.out, decide_eq_true HN2.out.symm, Bool.true_and, meetB_symm, ← HMM.out])
                  cases m
                  case true =>
                    have hres := Lib.hid (hno.out (by rw [hpm.out]; rfl))
                    go_wp2
                    go_ret
                    exact ⟨ret_bool hres.out.symm, (below_step HB0.out HB9.out)⟩
                  have HS2 := Lib.hid (hyes.out (by rw [hpm.out]; rfl))
                  go_wp2
                  go_roundw
                  case rel => exact ⟨j + 1, by omega, by go_num, HS2, HB9⟩
                  case measure => simp [intOf]; omega
                · have elj : decide ((j : Int) < (k : Int)) = false := decide_eq_false (by omega)
                  have HS2 := Lib.hid (show (pTo C.f11.length (k + 1) 0).all (lkOk C) = true by rw [← pTo_row hlt]; have := HA.out; rwa [show j = k by omega] at this)
                  go_wp2
                  go_roundw
                  case rel => exact ⟨k + 1, by omega, by go_num, HS2, HB⟩
                  case measure => simp [intOf]; omega
            · have elt : decide ((k : Int) < (C.f11.length : Int)) = false := decide_eq_false (by omega)
              have hres := Lib.hid (show b = true by rw [hbw.out]; have := HA.out; rwa [show k = C.f11.length by omega, pTo_end] at this)
              go_wp2
              go_ret
              exact ⟨ret_bool hres.out.symm, (below_step HB0.out HB.out)⟩
end Go.Proofs.Ytehbabkgaecoaaa
