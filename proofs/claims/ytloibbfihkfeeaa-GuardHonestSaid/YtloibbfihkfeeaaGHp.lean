/- The plain law of GuardHonest: what is sent as planned is let through. -/
import Derived.Test.YtloibbfihkfeeaaGOp
namespace Go.Proofs.Ytloibbfihkfeeaa
set_option linter.unusedVariables false
set_option linter.unusedSimpArgs false
open Go.RowKit Go.Shelf Go.Proofs.YtloibbfihkfeeaaW.PrintWords

/-- What a node sends in a slot, its clock so far from the guardian's. -/
def pl (C : S28) (length offset : Int) (p : Int × Int) : Sh := ⟨ownerW C p.1, p.1 * length - (offset + p.2) + C.f4, p.1 * length - (offset + p.2) + length - C.f4⟩
structure HonI (C : S28) (length offset : Int) : Prop where
  ck : checkN C = 0
  l1 : 2 * C.f4 + 1 ≤ length
  l2 : length ≤ 16777216
  o1 : -1000000 ≤ offset
  o2 : offset ≤ 1000000
def HonP (C : S28) (p : Int × Int) : Prop := 0 ≤ p.1 ∧ p.1 ≤ 1000000 ∧ -C.f4 ≤ p.2 ∧ p.2 ≤ C.f4
theorem div_in {t s r n : Int} (h : t = s * n) (h0 : 0 ≤ r) (h1 : r < n) : (t + r) / n = s :=
  ((Int.ediv_emod_unique (a := t + r) (b := n) (r := r) (q := s) (by omega)).2 ⟨by rw [h, Int.mul_comm s n, Int.add_comm], h0, h1⟩).1
theorem pl_lies {C : S28} {length offset : Int} {p : Int × Int} (h : HonI C length offset) (hp : HonP C p) : liesW length offset (pl C length offset p) = p.1 := by
  obtain ⟨m0, m1⟩ := check_margin h.ck
  have l1 := h.l1
  obtain ⟨p0, p1, p2, p3⟩ := hp
  have ht : 0 ≤ p.1 * length := Int.mul_nonneg p0 (by omega)
  obtain ⟨t, htt⟩ : ∃ t, t = p.1 * length := ⟨_, rfl⟩
  have e1 : (pl C length offset p).f1 + offset = t + (C.f4 - p.2) := by simp only [pl]; omega
  have e2 : (pl C length offset p).f2 + offset - 1 = t + (length - C.f4 - p.2 - 1) := by simp only [pl]; omega
  have e3 : ¬ (pl C length offset p).f2 ≤ (pl C length offset p).f1 := by simp only [pl]; omega
  unfold liesW
  rw [e1, e2, div_in htt (by omega) (by omega), div_in htt (by omega) (by omega), if_neg (by omega)]
theorem pl_verdict {C : S28} {length offset : Int} {p : Int × Int} (h : HonI C length offset) (hp : HonP C p) : verdictW C length offset (pl C length offset p) = 0 := by
  rw [← mine_iff, mineP, pl_lies h hp]
  exact ⟨hp.1, rfl⟩
theorem pl_bd {C : S28} {length offset : Int} {p : Int × Int} (h : HonI C length offset) (hp : HonP C p) : 0 ≤ p.1 * length ∧ p.1 * length ≤ 16777216000000 := by
  obtain ⟨m0, m1⟩ := check_margin h.ck
  have l1 := h.l1
  have l2 := h.l2
  obtain ⟨p0, p1, p2, p3⟩ := hp
  refine ⟨Int.mul_nonneg p0 (by omega), ?_⟩
  have := Int.mul_le_mul p1 l2 (by omega) (by omega)
  omega
theorem pl_ok {C : S28} {length offset : Int} {p : Int × Int} (h : HonI C length offset) (hp : HonP C p) : shotOk (pl C length offset p) = true := by
  obtain ⟨m0, m1⟩ := check_margin h.ck
  obtain ⟨b0, b1⟩ := pl_bd h hp
  have l1 := h.l1
  have l2 := h.l2
  have o1 := h.o1
  have o2 := h.o2
  obtain ⟨p0, p1, p2, p3⟩ := hp
  rw [shotOk, Bool.and_eq_true, decide_eq_true_eq, decide_eq_true_eq]
  simp only [pl]
  constructor
  · unfold mni; split <;> omega
  · unfold mxi; split <;> omega
theorem hon_may {C : S28} {length offset d : Int} {l : List Sh} (h : HonI C length offset) (d1 : -C.f4 ≤ d) (d2 : d ≤ C.f4) (hl : l.all shotOk = true) : mayW C length (offset + d) l = 0 := by
  obtain ⟨m0, m1⟩ := check_margin h.ck
  have l1 := h.l1
  have l2 := h.l2
  have o1 := h.o1
  have o2 := h.o2
  unfold mayW
  rw [if_neg (by rw [h.ck]; simp), if_neg (by omega), if_neg (by omega), if_pos hl]
theorem hon_may0 {C : S28} {length offset : Int} {l : List Sh} (h : HonI C length offset) (hl : l.all shotOk = true) : mayW C length offset l = 0 := by
  have := hon_may (d := 0) h (by have := (check_margin h.ck).1; omega) (by have := (check_margin h.ck).1; omega) hl
  rwa [Int.add_zero] at this
theorem hon_plan {C : S28} {length offset : Int} {p : Int × Int} (h : HonI C length offset) (hp : HonP C p) : planW C length p.1 (offset + p.2) = (pl C length offset p, 0) := by
  obtain ⟨p0, p1, p2, p3⟩ := hp
  unfold planW
  rw [hon_may h p2 p3 (by simp), if_neg (by simp), if_neg (by omega)]
  rfl
theorem thr_zero {C : S28} {length offset : Int} {l : List Sh} (h0 : ∀ x ∈ l, verdictW C length offset x = 0) (hc : ∀ (m k : Nat) (x y : Sh), m < k → l[m]? = some y → l[k]? = some x → clsh x y = false) : ∀ k, k ≤ l.length → thr C length offset l k = List.replicate k 0
  | 0, _ => rfl
  | k + 1, hk => by
    obtain ⟨x, hx⟩ : ∃ x, l[k]? = some x := ⟨_, List.getElem?_eq_getElem (by omega)⟩
    rw [thr_at hx, thr_zero h0 hc k (by omega), List.replicate_succ']
    congr 2
    unfold stepV
    rw [if_neg, h0 x (List.mem_of_getElem? hx)]
    rintro ⟨-, ha⟩
    rw [psd_any _ (by simp; omega) (by simp)] at ha
    obtain ⟨m, hm, y, hy, -, hcl⟩ := ha
    rw [hc m k x y (by simpa using hm) hy hx] at hcl
    cases hcl
theorem hon_thr {C : S28} {length offset : Int} {L : List (Int × Int)} (h : HonI C length offset) (hp : ∀ p ∈ L, HonP C p) (hn : (L.map Prod.fst).Nodup) : thr C length offset (L.map (pl C length offset)) L.length = List.replicate L.length 0 := by
  have hl1 : 1 ≤ length := by have := h.l1; have := (check_margin h.ck).1; omega
  refine thr_zero ?_ ?_ _ (by simp)
  · intro x hx
    obtain ⟨p, hpm, rfl⟩ := List.mem_map.1 hx
    exact pl_verdict h (hp p hpm)
  · intro m k x y hm hy hx
    rw [List.getElem?_map, Option.map_eq_some_iff] at hy hx
    obtain ⟨q, hq, rfl⟩ := hy
    obtain ⟨p, hpk, rfl⟩ := hx
    cases hc : clsh (pl C length offset p) (pl C length offset q) with
    | false => rfl
    | true =>
      have hpP := hp p (List.mem_of_getElem? hpk)
      have hqP := hp q (List.mem_of_getElem? hq)
      have he := same_lies hl1 (pl_verdict h hpP) (pl_verdict h hqP) hc
      rw [pl_lies h hpP, pl_lies h hqP] at he
      have e1 : (L.map Prod.fst)[m]? = some q.1 := by rw [List.getElem?_map, hq]; rfl
      have e2 : (L.map Prod.fst)[k]? = some p.1 := by rw [List.getElem?_map, hpk]; rfl
      have hml : m < (L.map Prod.fst).length := (List.getElem?_eq_some_iff.1 e1).1
      have hkl : k < (L.map Prod.fst).length := (List.getElem?_eq_some_iff.1 e2).1
      have := (List.getElem?_inj hml hn).1 (e1.trans (by rw [he, e2]))
      omega
theorem hon_all {C : S28} {length offset : Int} {L : List (Int × Int)} (h : HonI C length offset) (hp : ∀ p ∈ L, HonP C p) : mayW C length offset (L.map (pl C length offset)) = 0 :=
  hon_may0 h (List.all_eq_true.2 fun x hx => by
    obtain ⟨p, hpm, rfl⟩ := List.mem_map.1 hx
    exact pl_ok h (hp p hpm))
end Go.Proofs.Ytloibbfihkfeeaa
