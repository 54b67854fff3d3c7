/- The walk of ConfigClosed. -/
import Derived.Test.YtehbabkgaecoaaaRE
import Derived.Test.YtehbabkgaecoaaaEA
import Derived.Test.YtehbabkgaecoaaaCkP
import Derived.Test.YtehbabkgaecoaaaGrF
namespace Go.Proofs.Ytehbabkgaecoaaa
set_option linter.unusedVariables false
set_option linter.unusedSimpArgs false
open Go.RowKit Go.Shelf Go.Proofs.YtehbabkgaecoaaaW.PrintWords Go.Proofs.YtehbabkgaecoaaaW.PrintLast

theorem Rt.trans {nx : List (List Int)} {i k j : Nat} (h1 : Rt nx i k) (h2 : Rt nx k j) : Rt nx i j := by
  induction h2 with
  | refl => exact h1
  | step _ hq ih => exact .step ih hq
theorem rt_none {P : Nat} {i j : Nat} (h : Rt (List.replicate P ([] : List Int)) i j) : i = j := by
  induction h with
  | refl => rfl
  | step _ hq _ =>
    rw [List.getD_eq_getElem?_getD, List.getElem?_replicate] at hq
    split at hq <;> simp at hq
theorem nx_grow {C : S29} (L : List S61) {i : Nat} {q : Int} : ∀ nx : List (List Int), nx.length = C.f8.length → q ∈ nx.getD i [] → q ∈ (L.foldl (nxStep C) nx).getD i [] := by
  induction L with
  | nil => intro nx _ h; exact h
  | cons x L ih =>
    intro nx hl h
    have hl2 : (nxStep C nx x).length = C.f8.length := by unfold nxStep; split <;> simp [hl]
    refine ih _ hl2 ?_
    unfold nxStep
    split
    · rename_i ho
      unfold okL at ho
      rw [Bool.and_eq_true] at ho
      have hb := part_bd ho.1
      rw [getD_set' (show fromL C x < nx.length by unfold fromL; omega)]
      split
      · rename_i he; subst he; exact List.mem_append_left _ h
      · exact h
    · exact h
theorem nx_mem {C : S29} {x : S61} (ho : okL C x = true) {q : Int} (hq : q ∈ toL C x) : ∀ L : List S61, x ∈ L → ∀ nx : List (List Int), nx.length = C.f8.length → q ∈ (L.foldl (nxStep C) nx).getD (fromL C x) [] := by
  intro L
  induction L with
  | nil => intro h; simp at h
  | cons y L ih =>
    intro hx nx hl
    have hl2 : (nxStep C nx y).length = C.f8.length := by unfold nxStep; split <;> simp [hl]
    rw [List.foldl_cons]
    rcases List.mem_cons.1 hx with rfl | hx
    · refine nx_grow L _ hl2 ?_
      have hb := part_bd (show (partW C x.f0).2 = true by unfold okL at ho; rw [Bool.and_eq_true] at ho; exact ho.1)
      rw [nxStep, if_pos ho, getD_set' (show fromL C x < nx.length by unfold fromL; omega), if_pos rfl]
      exact List.mem_append_right _ hq
    · exact ih hx _ hl2
/-- What a configuration that may be says of a link's ports. -/
theorem link_ports {C : S29} (h : checkN C = 0) {x : S61} (hx : x ∈ C.f11) {n : Int} (hn : n = x.f0 ∨ n ∈ x.f1) : ∃ (m : Nat) (p : S59) (k : Nat), n = m ∧ C.f10[m]? = some p ∧ p.f0 = k ∧ k < C.f8.length := by
  have hp : portsB C = true := by
    cases hb : portsB C with
    | true => rfl
    | false => unfold checkN at h; rw [hb] at h; repeat' split at h <;> first | omega | skip
               all_goals simp_all
  have hl : linksB C = true := by
    cases hb : linksB C with
    | true => rfl
    | false => unfold checkN at h; rw [hb] at h; repeat' split at h <;> first | omega | skip
               all_goals simp_all
  unfold linksB at hl
  simp only [Bool.and_eq_true] at hl
  have hm := ((marks_iff C).1 hl.1.2).1
  have hlk := List.all_eq_true.1 hm x hx
  have hport : ∀ (m : Nat) (p : S59), C.f10[m]? = some p → ∃ k : Nat, p.f0 = k ∧ k < C.f8.length := by
    intro m p hmp
    unfold portsB at hp
    simp only [Bool.and_eq_true, List.all_eq_true] at hp
    have := hp.2 p (List.mem_of_getElem? hmp)
    unfold portOk withinB at this
    simp only [Bool.and_eq_true, decide_eq_true_eq] at this
    exact ⟨p.f0.toNat, by omega, by omega⟩
  unfold lkS at hlk
  cases hd : hdS C x with
  | none => rw [hd] at hlk; cases hlk
  | some s =>
    rw [hd] at hlk
    rcases hn with rfl | hn
    · unfold hdS at hd
      split at hd
      · rename_i h0
        cases hg : C.f10[x.f0.toNat]? with
        | none => rw [hg] at hd; cases hd
        | some p =>
          obtain ⟨k, hk1, hk2⟩ := hport _ p hg
          exact ⟨x.f0.toNat, p, k, by omega, hg, hk1, hk2⟩
      · cases hd
    · have := List.all_eq_true.1 hlk n hn
      unfold dstS at this
      simp only [Bool.and_eq_true, decide_eq_true_eq] at this
      cases hg : C.f10[n.toNat]? with
      | none => rw [hg] at this; cases this.2
      | some p =>
        obtain ⟨k, hk1, hk2⟩ := hport _ p hg
        exact ⟨n.toNat, p, k, by omega, hg, hk1, hk2⟩
theorem part_at {C : S29} {m k : Nat} {p : S59} (h1 : C.f10[m]? = some p) (h2 : p.f0 = k) (h3 : k < C.f8.length) : partW C (m : Int) = ((k : Int), true) := by
  rw [partW, if_pos (by omega), Int.toNat_natCast, h1]
  simp only [withinB, h2]
  rw [decide_eq_true (by omega)]
theorem link_reach {C : S29} (h : checkN C = 0) {x : S61} (hx : x ∈ C.f11) {n : Int} (hn : n ∈ x.f1) : Rt (nxOf C C.f11) (partW C x.f0).1.toNat (partW C n).1.toNat := by
  have hok : okL C x = true := by
    unfold okL
    rw [Bool.and_eq_true, List.all_eq_true]
    refine ⟨?_, fun n hn => ?_⟩
    · obtain ⟨m, p, k, h1, h2, h3, h4⟩ := link_ports h hx (.inl rfl)
      rw [h1, part_at h2 h3 h4]
    · obtain ⟨m, p, k, h1, h2, h3, h4⟩ := link_ports h hx (.inr hn)
      rw [h1, part_at h2 h3 h4]
  exact .step .refl (nx_mem hok (List.mem_map.2 ⟨n, hn, rfl⟩) C.f11 hx _ (by simp))
theorem OutI.at_ {W : World} {lo G P : Nat} {bs : List Nat} {M : List (List Bool)} (h : OutI W lo G P bs M) (hb : bs.length = P) {i : Nat} (hi : i < P) : ∃ b, W.cell? ⟨G, i, none⟩ = some (.slice (some ⟨b, 0, none⟩) P P) ∧ ∀ k, k < P → W.cell? ⟨b, k, none⟩ = some (.bool ((M.getD i []).getD k false)) := by
  obtain ⟨b, hg⟩ : ∃ b, bs[i]? = some b := ⟨bs[i]'(by omega), List.getElem?_eq_getElem (by omega)⟩
  obtain ⟨h1, h2, h3⟩ := h.row i b hg
  refine ⟨b, ?_, fun k hk => ?_⟩
  · rw [blk_cell h.blk i, List.getElem?_toArray, List.getElem?_append_left (by simp; omega), List.getElem?_map, hg]
    rfl
  · generalize M.getD i [] = r at h2 h3
    rw [blk_cell h3 k, List.getElem?_toArray, List.getElem?_map, List.getD_eq_getElem?_getD, List.getElem?_eq_getElem (by omega)]
    rfl
theorem OutI.below {W V : World} {lo G P : Nat} {bs : List Nat} {M : List (List Bool)} (h : OutI W lo G P bs M) (hb : Below W.heap.size W V) : OutI V lo G P bs M :=
  ⟨blk_keep hb h.blk, h.len, h.le, fun i b hi => ⟨(h.row i b hi).1, (h.row i b hi).2.1, blk_keep hb (h.row i b hi).2.2⟩, h.nodup⟩
set_option maxRecDepth 100000 in
set_option maxHeartbeats 32000000 in
theorem closed_calls (w : World) (A1 A8 A9 A10 A11 : Option Addr) (c1 c8 c9 c10 c11 : Nat) (C : S29) (h : CfgIn w C A1 A8 A9 A10 A11 c1 c8 c9 c10 c11) (_hC : CfgOk C) (hz : SzOk C) :
    Calls Try.prog 9 #[.agg #[.int .i64 C.f0, .slice A1 C.f1.length c1, .int .i64 C.f2, .int .i64 C.f3, .int .i64 C.f4, .int .i64 C.f5, .int .i64 C.f6, .int .i64 C.f7, .slice A8 C.f8.length c8, .slice A9 C.f9.length c9, .slice A10 C.f10.length c10, .slice A11 C.f11.length c11]] w fun e w' => e = .returned (.bool true) ∧ Below w.heap.size w w' := by
  have HR := Lib.hid h
  have HZ := Lib.hid hz
  have HB := Lib.hid (show Below w.heap.size w (w.alloc (Obj.cells #[.int .i64 C.f0, .slice A1 C.f1.length c1, .int .i64 C.f2, .int .i64 C.f3, .int .i64 C.f4, .int .i64 C.f5, .int .i64 C.f6, .int .i64 C.f7, .slice A8 C.f8.length c8, .slice A9 C.f9.length c9, .slice A10 C.f10.length c10, .slice A11 C.f11.length c11] 29)) from (Below.refl _ _).alloc (Nat.le_refl _) _)
  have H0 := Lib.hid (blk_new w (o := (Obj.cells #[.int .i64 C.f0, .slice A1 C.f1.length c1, .int .i64 C.f2, .int .i64 C.f3, .int .i64 C.f4, .int .i64 C.f5, .int .i64 C.f6, .int .i64 C.f7, .slice A8 C.f8.length c8, .slice A9 C.f9.length c9, .slice A10 C.f10.length c10, .slice A11 C.f11.length c11] 29)))
  clear h hz _hC
  go_enter Try.func9, Try.ntmps9
  obtain ⟨k0, k1, k2, k3, k4, k5, k6, k7, k8, k9, k10, k11⟩ := cfg_cells H0.out
  go_wp2_with fail
  refine (alive_calls _).mono ?_
  rintro e u ⟨rfl, hb⟩
  clear k0 k1 k2 k3 k4 k5 k6 k7 k8 k9 k10 k11
  replace H0 := Lib.hid (blk_keep hb H0.out)
  replace HB := Lib.hid (below_step HB.out hb)
  clear hb
  obtain ⟨k0, k1, k2, k3, k4, k5, k6, k7, k8, k9, k10, k11⟩ := cfg_cells H0.out
  obtain ⟨gr, hgr⟩ : ∃ gr, gr = greatB C := ⟨_, rfl⟩
  have HG := Lib.hid hgr
  clear hgr
  go_wp2_with fail
  refine (great_calls _ _ _ _ _ _ _ _ _ _ C _ (HR.out.below HB.out)).mono ?_
  rintro e u ⟨rfl, hb⟩
  clear k0 k1 k2 k3 k4 k5 k6 k7 k8 k9 k10 k11
  replace H0 := Lib.hid (blk_keep hb H0.out)
  replace HB := Lib.hid (below_step HB.out hb)
  clear hb
  obtain ⟨k0, k1, k2, k3, k4, k5, k6, k7, k8, k9, k10, k11⟩ := cfg_cells H0.out
  rw [← HG.out]
  cases gr
  case true =>
    go_wp2
    go_ret
    exact ⟨rfl, HB.out⟩
  obtain ⟨g1, g2, g3, g4, -, -⟩ := great_facts HG.out.symm HZ.out
  by_cases h40 : C.f8.length ≤ 40
  case neg =>
    have e40 : decide (40 < (C.f8.length : Int)) = true := decide_eq_true (by omega)
    go_wp2
    go_ret
    exact ⟨rfl, HB.out⟩
  have e40 : decide (40 < (C.f8.length : Int)) = false := decide_eq_false (by omega)
  go_wp2_with fail
  refine (reach_calls _ _ _ _ _ _ _ _ _ _ C _ (HR.out.below HB.out) (by omega) (by omega)).mono ?_
  rintro e W1 ⟨G, lo, bs, M, rfl, hG0, hlo, hOU, hbl, hOK, hb⟩
  clear k0 k1 k2 k3 k4 k5 k6 k7 k8 k9 k10 k11
  have hba : Below W1.heap.size W1 (W1.alloc (Obj.cells #[.int .i64 C.f0, .slice A1 C.f1.length c1, .int .i64 C.f2, .int .i64 C.f3, .int .i64 C.f4, .int .i64 C.f5, .int .i64 C.f6, .int .i64 C.f7, .slice A8 C.f8.length c8, .slice A9 C.f9.length c9, .slice A10 C.f10.length c10, .slice none 0 0] 29)) := (Below.refl _ _).alloc (Nat.le_refl _) _
  have hOU' := hOU
  replace H0 := Lib.hid (blk_keep hb H0.out)
  replace HB := Lib.hid (below_step HB.out hb)
  have HD := Lib.hid (blk_new W1 (Obj.cells #[.int .i64 C.f0, .slice A1 C.f1.length c1, .int .i64 C.f2, .int .i64 C.f3, .int .i64 C.f4, .int .i64 C.f5, .int .i64 C.f6, .int .i64 C.f7, .slice A8 C.f8.length c8, .slice A9 C.f9.length c9, .slice A10 C.f10.length c10, .slice none 0 0] 29))
  have HM := Lib.hid (hOU.below hba)
  have HBL := Lib.hid hbl
  have HOK := Lib.hid hOK
  replace HB := Lib.hid (below_step HB.out hba)
  have H0b := Lib.hid (blk_keep hba H0.out)
  clear hOU hbl hOK hb hba hOU' hG0 hlo
  obtain ⟨k0, k1, k2, k3, k4, k5, k6, k7, k8, k9, k10, k11⟩ := cfg_cells H0.out
  obtain ⟨d0, d1, d2, d3, d4, d5, d6, d7, d8, d9, d10, d11⟩ := cfg_cells HD.out
  unfold slV
  go_wp2_with fail
  have hin2 : CfgIn (W1.alloc (Obj.cells #[.int .i64 C.f0, .slice A1 C.f1.length c1, .int .i64 C.f2, .int .i64 C.f3, .int .i64 C.f4, .int .i64 C.f5, .int .i64 C.f6, .int .i64 C.f7, .slice A8 C.f8.length c8, .slice A9 C.f9.length c9, .slice A10 C.f10.length c10, .slice none 0 0] 29)) { C with f11 := [] } A1 A8 A9 A10 none c1 c8 c9 c10 0 := by
    obtain ⟨q1, q8, q9, q10, q11⟩ := HR.out.below HB.out
    exact ⟨q1, q8, q9, q10, by simp, Kd.C_nil _ _⟩
  refine (reach_calls A1 A8 A9 A10 none c1 c8 c9 c10 0 { C with f11 := [] } _ hin2 (by show C.f8.length ≤ 1000; omega) (by simp)).mono ?_
  rintro e W2 ⟨G2, lo2, bs2, N, rfl, -, -, hOU, hbl, hOK2, hb⟩
  clear k0 k1 k2 k3 k4 k5 k6 k7 k8 k9 k10 k11 d0 d1 d2 d3 d4 d5 d6 d7 d8 d9 d10 d11 hin2 HD
  replace HM := Lib.hid (HM.out.below hb)
  have HN := Lib.hid hOU
  have HBL2 := Lib.hid hbl
  have HN2 := Lib.hid (show ∀ i k, i < C.f8.length → (N.getD i []).getD k false = decide (i = k) from fun i k hi => by
    have := (hOK2.2 i hi).2 k
    rw [Bool.eq_iff_iff, decide_eq_true_eq, this]
    refine ⟨fun hr => rt_none (P := C.f8.length) (by simpa [nxOf] using hr), fun he => by subst he; exact .refl⟩)
  replace H0 := Lib.hid (blk_keep hb H0b.out)
  replace HB := Lib.hid (below_step HB.out hb)
  clear hb hOU hbl hOK2 H0b
  obtain ⟨k0, k1, k2, k3, k4, k5, k6, k7, k8, k9, k10, k11⟩ := cfg_cells H0.out
  unfold slV
  go_wp2_with fail
  clear k0 k1 k2 k3 k4 k5 k6 k7 k8 k9 k10 k11
  go_loop [50] (fun i => ∃ k : Nat, k ≤ C.f8.length ∧ i = .int .i64 k) (fun i => C.f8.length - (intOf i).toNat)
  case atStart => exact ⟨0, by omega, rfl⟩
  case round =>
    obtain ⟨i, hi, rfl⟩ := hrel
    by_cases hit : i < C.f8.length
    · go_wp2_with fail
      go_loop [55] (fun i => ∃ k : Nat, k ≤ C.f8.length ∧ i = .int .i64 k) (fun i => C.f8.length - (intOf i).toNat)
      case atStart => exact ⟨0, by omega, rfl⟩
      case round =>
        obtain ⟨k, hk, rfl⟩ := hrel
        by_cases hkt : k < C.f8.length
        · obtain ⟨b, q1, q2⟩ := HM.out.at_ HBL.out hit
          obtain ⟨b', q1', q2'⟩ := HM.out.at_ HBL.out hkt
          obtain ⟨c, q3, q4⟩ := HN.out.at_ HBL2.out hit
          have q5 := q4 k hkt
          rw [HN2.out i k hit] at q5
          have q6 := q2 k hkt
          have HQ2 := Lib.hid q2
          have HQ2' := Lib.hid q2'
          obtain ⟨m0, hm1⟩ : ∃ m, m = (M.getD i []).getD k false := ⟨_, rfl⟩
          rw [← hm1] at q6
          have HM1 := Lib.hid hm1
          have HII := Lib.hid (show i = k → m0 = true from fun he => by rw [hm1, (HOK.out.2 i hit).2 k, he]; exact .refl)
          clear q2 q2' q4 hm1
          by_cases hik : i = k
          · have e1 : ((i : Int) == (k : Int)) = true := beq_iff_eq.2 (by omega)
            obtain rfl := HII.out hik
            rw [decide_eq_true hik] at q5
            clear hik
            go_wp2_with fail
            clear q3 q5 e1
            obtain ⟨m1, hm1⟩ : ∃ m : Bool, m = true := ⟨_, rfl⟩
            rw [← hm1] at q6 HM1
            clear hm1
            go_loop [86] (fun i => ∃ k : Nat, k ≤ C.f8.length ∧ i = .int .i64 k) (fun i => C.f8.length - (intOf i).toNat)
            case atStart => exact ⟨0, by omega, rfl⟩
            case round =>
              obtain ⟨j, hj, rfl⟩ := hrel
              by_cases hjt : j < C.f8.length
              · have q7 := HQ2'.out j hjt
                have q8 := HQ2.out j hjt
                obtain ⟨m2, hm2⟩ : ∃ m, m = (M.getD k []).getD j false := ⟨_, rfl⟩
                obtain ⟨m3, hm3⟩ : ∃ m, m = (M.getD i []).getD j false := ⟨_, rfl⟩
                rw [← hm2] at q7
                rw [← hm3] at q8
                have HTR := Lib.hid (show m1 = true → m2 = true → m3 = true from fun h1 h2 => by
                  rw [hm3, (HOK.out.2 i hit).2 j]
                  exact .trans ((HOK.out.2 i hit).2 k |>.1 (by rw [← HM1.out]; exact h1)) ((HOK.out.2 k hkt).2 j |>.1 (by rw [← hm2]; exact h2)))
                clear hm2 hm3
                cases m1
                case false =>
                  go_wp2_with fail
                  go_round
                  case rel => exact ⟨j + 1, by omega, by go_num⟩
                  case measure => simp [intOf]; omega
                cases m2
                case false =>
                  go_wp2_with fail
                  go_round
                  case rel => exact ⟨j + 1, by omega, by go_num⟩
                  case measure => simp [intOf]; omega
                obtain rfl := HTR.out rfl rfl
                go_wp2_with fail
                go_round
                case rel => exact ⟨j + 1, by omega, by go_num⟩
                case measure => simp [intOf]; omega
              · go_wp2_with fail
                go_round
                case rel => exact ⟨k + 1, by omega, by go_num⟩
                case measure => simp [intOf]; omega
          · have e1 : ((i : Int) == (k : Int)) = false := beq_eq_false_iff_ne.2 (by omega)
            rw [decide_eq_false hik] at q5
            clear hik
            go_wp2_with fail
            clear q3 q5 e1
            obtain ⟨m1, hm1⟩ : ∃ m : Bool, m = m0 := ⟨_, rfl⟩
            rw [← hm1] at q6 HM1
            clear hm1
            go_loop [86] (fun i => ∃ k : Nat, k ≤ C.f8.length ∧ i = .int .i64 k) (fun i => C.f8.length - (intOf i).toNat)
            case atStart => exact ⟨0, by omega, rfl⟩
            case round =>
              obtain ⟨j, hj, rfl⟩ := hrel
              by_cases hjt : j < C.f8.length
              · have q7 := HQ2'.out j hjt
                have q8 := HQ2.out j hjt
                obtain ⟨m2, hm2⟩ : ∃ m, m = (M.getD k []).getD j false := ⟨_, rfl⟩
                obtain ⟨m3, hm3⟩ : ∃ m, m = (M.getD i []).getD j false := ⟨_, rfl⟩
                rw [← hm2] at q7
                rw [← hm3] at q8
                have HTR := Lib.hid (show m1 = true → m2 = true → m3 = true from fun h1 h2 => by
                  rw [hm3, (HOK.out.2 i hit).2 j]
                  exact .trans ((HOK.out.2 i hit).2 k |>.1 (by rw [← HM1.out]; exact h1)) ((HOK.out.2 k hkt).2 j |>.1 (by rw [← hm2]; exact h2)))
                clear hm2 hm3
                cases m1
                case false =>
                  go_wp2_with fail
                  go_round
                  case rel => exact ⟨j + 1, by omega, by go_num⟩
                  case measure => simp [intOf]; omega
                cases m2
                case false =>
                  go_wp2_with fail
                  go_round
                  case rel => exact ⟨j + 1, by omega, by go_num⟩
                  case measure => simp [intOf]; omega
                obtain rfl := HTR.out rfl rfl
                go_wp2_with fail
                go_round
                case rel => exact ⟨j + 1, by omega, by go_num⟩
                case measure => simp [intOf]; omega
              · go_wp2_with fail
                go_round
                case rel => exact ⟨k + 1, by omega, by go_num⟩
                case measure => simp [intOf]; omega
        · go_wp2_with fail
          go_round
          case rel => exact ⟨i + 1, by omega, by go_num⟩
          case measure => simp [intOf]; omega
    · obtain ⟨k0, k1, k2, k3, k4, k5, k6, k7, k8, k9, k10, k11⟩ := cfg_cells H0.out
      obtain ⟨n, hn⟩ : ∃ n, n = checkN C := ⟨_, rfl⟩
      have EN := Lib.hid hn
      clear hn
      go_wp2_with fail
      refine (check_calls _ _ _ _ _ _ _ _ _ _ C _ (HR.out.below HB.out)).mono ?_
      rintro e u ⟨rfl, hb⟩
      clear k0 k1 k2 k3 k4 k5 k6 k7 k8 k9 k10 k11
      replace H0 := Lib.hid (blk_keep hb H0.out)
      replace HB := Lib.hid (below_step HB.out hb)
      replace HM := Lib.hid (HM.out.below hb)
      clear hb
      rw [← EN.out]
      by_cases hc : n = 0
      case neg =>
        have e0 : (n != 0) = true := by simpa using hc
        clear hc
        go_wp2
        go_ret
        exact ⟨rfl, HB.out⟩
      subst hc
      have EC := Lib.hid EN.out.symm
      clear EN
      have k11 := (cfg_cells H0.out).2.2.2.2.2.2.2.2.2.2.2
      go_wp2_with fail
      clear k11
      go_loopw [125] (fun i wr => ∃ k : Nat, k ≤ C.f11.length ∧ i = .int .i64 k ∧ Hid (Below u.heap.size u wr)) (fun i _ => C.f11.length - (intOf i).toNat)
      case atStart => exact ⟨0, by omega, rfl, Lib.hid (Below.refl _ _)⟩
      case round =>
        obtain ⟨k, hk, rfl, HBU⟩ := hrel
        obtain ⟨WO, rfl⟩ : ∃ W : World, W = wr := ⟨_, rfl⟩
        by_cases hkt : k < C.f11.length
        · obtain ⟨ad, x, Ax, cx, e11, x0, x1, x2, hcx, HXR, HV⟩ := at_K (Kd.C_below HR.out.2.2.2.2.2 (below_step HB.out HBU.out)) k hkt
          subst e11
          have hxm := List.mem_of_getElem? HV.out
          obtain ⟨f1, p1, j1, hf1, hp1, hj1, hj1l⟩ := link_ports EC.out hxm (.inl rfl)
          have HBV := Lib.hid (below_step HBU.out ((Below.refl WO.heap.size WO).alloc (Nat.le_refl _) (Obj.cells #[.int .i64 x.f0, .slice Ax x.f1.length cx, .int .i64 x.f2] 61)))
          have HLB := Lib.hid (blk_new WO (Obj.cells #[.int .i64 x.f0, .slice Ax x.f1.length cx, .int .i64 x.f2] 61))
          have hxl : x.f1.length ≤ 9223372036854775807 := HXR.out.2.1
          replace HXR := Lib.hid (Kd.C_below HXR.out ((Below.refl WO.heap.size WO).alloc (Nat.le_refl _) (Obj.cells #[.int .i64 x.f0, .slice Ax x.f1.length cx, .int .i64 x.f2] 61)))
          have y1 := blk_cell HLB.out 1
          have HXM := Lib.hid hxm
          have HF1 := Lib.hid hf1
          have HP1 := Lib.hid (And.intro hp1 hj1)
          clear hxm hf1 hp1 hj1
          go_wp2_with fail
          generalize hV1 : WO.alloc (Obj.cells #[.int .i64 x.f0, .slice Ax x.f1.length cx, .int .i64 x.f2] 61) = V1 at *
          clear hV1 x0 x1 x2 y1
          go_loopw [132] (fun i wi => ∃ j : Nat, j ≤ x.f1.length ∧ i = .int .i64 j ∧ Hid (Below V1.heap.size V1 wi)) (fun i _ => x.f1.length - (intOf i).toNat)
          case atStart => exact ⟨0, by omega, rfl, Lib.hid (Below.refl _ _)⟩
          case round =>
            obtain ⟨j, hj, rfl, HBI⟩ := hrel
            by_cases hjt : j < x.f1.length
            · obtain ⟨adx, n, eA, n0, HN⟩ := at_I (Kd.C_below HXR.out HBI.out) j hjt
              subst eA
              have hnm := List.mem_of_getElem? HN.out
              have hRR := link_reach EC.out HXM.out hnm
              obtain ⟨f2, p2, j2, hf2, hp2, hj2, hj2l⟩ := link_ports EC.out HXM.out (.inr hnm)
              have HBT := Lib.hid (below_step HBV.out HBI.out)
              have hR10 := (HR.out.below (below_step HB.out HBT.out)).2.2.2.1.2
              have l1 := (List.getElem?_eq_some_iff.1 HP1.out.1).1
              have l2 := (List.getElem?_eq_some_iff.1 hp2).1
              obtain ⟨adp, r1, ep, a0, -, -, -, -, -, hr1⟩ := at_Q hR10 f1 l1
              obtain ⟨adp', r2, ep', b0, -, -, -, -, -, hr2⟩ := at_Q hR10 f2 l2
              rw [ep] at ep'
              injection ep' with ep'
              subst ep'
              subst ep
              have e1 := hr1.out
              rw [HP1.out.1] at e1
              injection e1 with e1
              have e2 := hr2.out
              rw [hp2] at e2
              injection e2 with e2
              rw [← e1, HP1.out.2] at a0
              rw [← e2, hj2] at b0
              rw [HF1.out, part_at HP1.out.1 HP1.out.2 hj1l, hf2, part_at hp2 hj2 hj2l] at hRR
              simp only [Int.toNat_natCast] at hRR
              have k10 := (cfg_cells (blk_keep HBT.out H0.out)).2.2.2.2.2.2.2.2.2.2.1
              have y0 : wr.cell? ⟨WO.heap.size, 0, none⟩ = some (.int .i64 f1) := by rw [blk_cell (blk_keep HBI.out HLB.out) 0, ← HF1.out]; rfl
              obtain ⟨b, q1, q2⟩ := (HM.out.below HBT.out).at_ HBL.out hj1l
              have q3 := q2 j2 hj2l
              rw [(HOK.out.2 j1 hj1l).2 j2 |>.2 hRR] at q3
              have HBF := Lib.hid HBI.out
              subst hf2
              clear hR10 hr1 hr2 e1 e2 q2 hRR hnm
              go_wp2_with fail
              go_quiet (fail)
              go_wp2_with fail
              go_roundw
              case rel => exact ⟨j + 1, by omega, by go_num, Lib.hid (pw_below_drewN HBF.out _)⟩
              case measure => simp [intOf]; omega
            · go_wp2_with fail
              go_roundw
              case rel => exact ⟨k + 1, by omega, by go_num, Lib.hid (below_step HBV.out HBI.out)⟩
              case measure => simp [intOf]; omega
        · go_wp2
          go_ret
          exact ⟨rfl, below_step HB.out HBU.out⟩
end Go.Proofs.Ytehbabkgaecoaaa
