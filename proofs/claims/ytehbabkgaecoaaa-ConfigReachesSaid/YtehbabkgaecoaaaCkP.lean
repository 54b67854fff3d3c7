/- Plain facts on what Check looks at: how often numbers are among some; which links go together. -/
import Derived.Test.YtehbabkgaecoaaaCkG
namespace Go.Proofs.Ytehbabkgaecoaaa
set_option linter.unusedVariables false
set_option linter.unusedSimpArgs false
open Go.RowKit Go.Shelf Go.Proofs.YtehbabkgaecoaaaW.PrintWords

theorem nodup_le {u r : List Int} (hn : u.Nodup) (hs : ∀ x ∈ u, x ∈ r) : u.length ≤ r.length := by
  induction u generalizing r with
  | nil => simp
  | cons a u ih =>
    obtain ⟨h1, h2⟩ := List.nodup_cons.1 hn
    have ha := hs a (by simp)
    have hl := List.length_erase_of_mem ha
    have hp := List.length_pos_of_mem ha
    have := ih (r := r.erase a) h2 (fun x hx => (List.mem_erase_of_ne (show x ≠ a from fun e => h1 (e ▸ hx))).2 (hs x (by simp [hx])))
    simp only [List.length_cons]; omega
theorem perm_of_len {u r : List Int} (hn : r.Nodup) (hs : ∀ x ∈ r, x ∈ u) (hl : u.length ≤ r.length) : u.Perm r := by
  induction r generalizing u with
  | nil => simp at hl; subst hl; exact List.Perm.refl _
  | cons a r ih =>
    obtain ⟨h1, h2⟩ := List.nodup_cons.1 hn
    have ha := hs a (by simp)
    have hle := List.length_erase_of_mem ha
    have := ih (u := u.erase a) h2 (fun x hx => (List.mem_erase_of_ne (show x ≠ a from fun e => h1 (e ▸ hx))).2 (hs x (by simp [hx]))) (by simp only [List.length_cons] at hl; omega)
    exact (List.perm_cons_erase ha).trans (this.cons a)
def upto (n : Nat) : List Int := (List.range n).map (fun (i : Nat) => (i : Int))
theorem upto_len (n : Nat) : (upto n).length = n := by simp [upto]
theorem upto_nodup (n : Nat) : (upto n).Nodup := by
  unfold upto
  rw [List.nodup_iff_pairwise_ne, List.pairwise_map]
  exact (List.nodup_iff_pairwise_ne.1 List.nodup_range).imp (fun h e => h (by omega))
theorem mem_upto {n : Nat} {x : Int} : x ∈ upto n ↔ 0 ≤ x ∧ x < n := by
  unfold upto
  rw [List.mem_map]
  constructor
  · rintro ⟨i, hi, rfl⟩; have := List.mem_range.1 hi; omega
  · intro h; exact ⟨x.toNat, List.mem_range.2 (by omega), by omega⟩
/-- As many as there are, and each of them: each of them once. -/
theorem count_one {l : List Int} {n : Nat} (hl : l.length = n) : ((List.range n).all fun k => decide ((k : Int) ∈ l)) = ((List.range n).all fun k => decide (l.count (k : Int) = 1)) := by
  rw [Bool.eq_iff_iff, List.all_eq_true, List.all_eq_true]
  constructor
  · intro h k hk
    have hp : l.Perm (upto n) := perm_of_len (upto_nodup n) (fun x hx => by
      obtain ⟨h0, h1⟩ := mem_upto.1 hx
      have := of_decide_eq_true (h x.toNat (List.mem_range.2 (by omega)))
      rwa [show ((x.toNat : Nat) : Int) = x by omega] at this) (by rw [upto_len]; omega)
    rw [decide_eq_true_eq, hp.count_eq, (upto_nodup n).count, if_pos (mem_upto.2 (by have := List.mem_range.1 hk; omega))]
  · intro h k hk
    have := of_decide_eq_true (h k hk)
    exact decide_eq_true (List.count_pos_iff.1 (by omega))

/-! Links. -/
def dstS (C : S29) (s : S59) (n : Int) : Bool := decide (0 ≤ n) && (match C.f10[n.toNat]? with | some d => decide (d.f2 = 2) && decide (d.f1 = s.f1) && decide (d.f3 = s.f3) | none => false)
def hdS (C : S29) (l : S61) : Option S59 := if 0 ≤ l.f0 then (match C.f10[l.f0.toNat]? with | some s => if s.f2 = 1 ∧ l.f1.length ≠ 0 ∧ (0 ≤ l.f2 ∧ l.f2 ≤ 63 - s.f3) then some s else none | none => none) else none
def lkS (C : S29) (l : S61) : Bool := match hdS C l with | some s => l.f1.all (dstS C s) | none => false
def lkU (l : S61) : List Int := l.f0 :: l.f1
def usd (L : List S61) : List Int := L.flatMap lkU
def tkOf (n : Nat) (u : List Int) : List Int := (List.range n).map fun (i : Nat) => if (i : Int) ∈ u then 1 else 0
theorem tkOf_get {n : Nat} {u : List Int} {x : Int} (h0 : 0 ≤ x) (h1 : x < n) : (tkOf n u).getD x.toNat 0 = if x ∈ u then 1 else 0 := by
  unfold tkOf
  rw [List.getD_eq_getElem?_getD, List.getElem?_map, List.getElem?_range (by omega), Option.map_some, Option.getD_some, show ((x.toNat : Nat) : Int) = x by omega]
theorem tkOf_bump {n : Nat} {u : List Int} {x : Int} (h0 : 0 ≤ x) (h1 : x < n) : bump (tkOf n u) x = tkOf n (u ++ [x]) := by
  unfold bump
  apply List.ext_getElem?
  intro i
  by_cases hi : i < n
  case neg =>
    rw [List.getElem?_eq_none (by simp [tkOf]; omega), List.getElem?_eq_none (by simp [tkOf]; omega)]
  unfold tkOf
  rw [List.getElem?_set]
  by_cases he : x.toNat = i
  · rw [if_pos he, if_pos (by simp; omega), List.getElem?_map, List.getElem?_range hi, Option.map_some, if_pos (by simp; omega)]
  · rw [if_neg he, List.getElem?_map, List.getElem?_map, List.getElem?_range hi, Option.map_some, Option.map_some]
    have : ((i : Int) ∈ u ++ [x]) ↔ (i : Int) ∈ u := by simp; omega
    simp only [this]
theorem dst_lt {C : S29} {s : S59} {x : Int} (h : dstS C s x = true) : 0 ≤ x ∧ x < C.f10.length := by
  unfold dstS at h
  rw [Bool.and_eq_true, decide_eq_true_eq] at h
  refine ⟨h.1, ?_⟩
  cases hx : C.f10[x.toNat]? with
  | none => rw [hx] at h; simp at h
  | some d => have := (List.getElem?_eq_some_iff.1 hx).1; omega
theorem destOk_eq {C : S29} {s : S59} {u : List Int} {x : Int} : destOk C s (tkOf C.f10.length u) x = (dstS C s x && decide (x ∉ u)) := by
  cases hd : dstS C s x with
  | true =>
    obtain ⟨h0, h1⟩ := dst_lt hd
    unfold destOk
    unfold dstS at hd
    cases hx : C.f10[x.toNat]? with
    | none => rw [hx] at hd; simp at hd
    | some d =>
      rw [hx] at hd
      simp only [Bool.and_eq_true, decide_eq_true_eq] at hd
      simp only [tkOf_get h0 h1]
      by_cases hu : x ∈ u
      · simp [hd, hu]
      · simp [hd, hu]
  | false =>
    rw [Bool.false_and]
    unfold destOk
    unfold dstS at hd
    cases hx : C.f10[x.toNat]? with
    | none => simp
    | some d =>
      rw [hx] at hd
      simp only at hd ⊢
      rw [← Bool.and_assoc, hd, Bool.false_and]
theorem destStep_eq {C : S29} {s : S59} {u : List Int} {x : Int} : destStep C s (some (tkOf C.f10.length u)) x = if dstS C s x = true ∧ x ∉ u then some (tkOf C.f10.length (u ++ [x])) else none := by
  unfold destStep
  rw [Option.bind_some, destOk_eq]
  by_cases h : dstS C s x = true ∧ x ∉ u
  · obtain ⟨h0, h1⟩ := dst_lt h.1
    rw [if_pos (by simp [h.1, h.2]), if_pos h, tkOf_bump h0 h1]
  · rw [if_neg (by simpa using h), if_neg h]
theorem dests_none {C : S29} {s : S59} (l : List Int) : l.foldl (destStep C s) none = none := by
  induction l with
  | nil => rfl
  | cons x l ih => exact ih
theorem dests_eq {C : S29} {s : S59} (l : List Int) : ∀ u : List Int, u.Nodup → l.foldl (destStep C s) (some (tkOf C.f10.length u)) = if l.all (dstS C s) = true ∧ (u ++ l).Nodup then some (tkOf C.f10.length (u ++ l)) else none := by
  induction l with
  | nil => intro u hu; simp [hu]
  | cons x l ih =>
    intro u hu
    rw [List.foldl_cons, destStep_eq]
    by_cases h : dstS C s x = true ∧ x ∉ u
    · rw [if_pos h]
      have hn : (u ++ [x]).Nodup := by
        rw [List.nodup_append]
        exact ⟨hu, by simp, fun a ha b hb => by simp at hb; subst hb; intro e; subst e; exact h.2 ha⟩
      rw [ih _ hn]
      simp only [List.all_cons, h.1, Bool.true_and, List.append_assoc, List.singleton_append]
    · rw [if_neg h, dests_none, if_neg]
      rintro ⟨h1, h2⟩
      rw [List.all_cons, Bool.and_eq_true] at h1
      refine h ⟨h1.1, fun hm => ?_⟩
      have := (List.nodup_append.1 h2).2.2 x hm x (by simp)
      exact this rfl
theorem hd_lt {C : S29} {l : S61} {s : S59} (h : hdS C l = some s) : (0 ≤ l.f0 ∧ l.f0 < C.f10.length) ∧ C.f10[l.f0.toNat]? = some s := by
  unfold hdS at h
  split at h
  · rename_i h0
    split at h
    · rename_i s' hx
      split at h
      · cases h
        have := (List.getElem?_eq_some_iff.1 hx).1
        exact ⟨by omega, hx⟩
      · cases h
    · cases h
  · cases h
theorem headOk_eq {C : S29} {u : List Int} {l : S61} : headOk C (tkOf C.f10.length u) l = if l.f0 ∈ u then none else hdS C l := by
  by_cases h0 : 0 ≤ l.f0
  case neg =>
    unfold headOk hdS
    rw [if_neg h0, if_neg h0, ite_self]
  cases hx : C.f10[l.f0.toNat]? with
  | none =>
    unfold headOk hdS
    rw [if_pos h0, if_pos h0, hx, ite_self]
  | some s =>
    have h1 : l.f0 < C.f10.length := by have := (List.getElem?_eq_some_iff.1 hx).1; omega
    unfold headOk hdS
    rw [if_pos h0, if_pos h0, hx]
    simp only [tkOf_get h0 h1]
    by_cases hu : l.f0 ∈ u
    · simp [hu]
    · simp [hu]
theorem linkStep_eq {C : S29} {u : List Int} {l : S61} (hu : u.Nodup) : linkStep C (some (tkOf C.f10.length u)) l = if lkS C l = true ∧ (u ++ lkU l).Nodup then some (tkOf C.f10.length (u ++ lkU l)) else none := by
  unfold linkStep lkS lkU
  rw [Option.bind_some, headOk_eq]
  by_cases hm : l.f0 ∈ u
  · rw [if_pos hm, Option.bind_none, if_neg]
    rintro ⟨-, h2⟩
    exact (List.nodup_append.1 h2).2.2 _ hm _ (by simp) rfl
  · rw [if_neg hm]
    cases hd : hdS C l with
    | none => rw [Option.bind_none, if_neg (by simp)]
    | some s =>
      obtain ⟨⟨h0, h1⟩, hx⟩ := hd_lt hd
      have hn : (u ++ [l.f0]).Nodup := by
        rw [List.nodup_append]
        exact ⟨hu, by simp, fun a ha b hb => by simp at hb; subst hb; intro e; subst e; exact hm ha⟩
      rw [Option.bind_some, tkOf_bump h0 h1, dests_eq _ _ hn]
      simp only [List.append_assoc, List.singleton_append]
theorem links_none {C : S29} (L : List S61) : L.foldl (linkStep C) none = none := by
  induction L with
  | nil => rfl
  | cons x l ih => exact ih
theorem links_eq {C : S29} (L : List S61) : ∀ u : List Int, u.Nodup → L.foldl (linkStep C) (some (tkOf C.f10.length u)) = if L.all (lkS C) = true ∧ (u ++ usd L).Nodup then some (tkOf C.f10.length (u ++ usd L)) else none := by
  induction L with
  | nil => intro u hu; simp [usd, hu]
  | cons x l ih =>
    intro u hu
    rw [List.foldl_cons, linkStep_eq hu]
    by_cases h : lkS C x = true ∧ (u ++ lkU x).Nodup
    · rw [if_pos h, ih _ h.2]
      simp only [List.all_cons, h.1, Bool.true_and, usd, List.flatMap_cons, List.append_assoc]
    · rw [if_neg h, links_none, if_neg]
      rintro ⟨h1, h2⟩
      rw [List.all_cons, Bool.and_eq_true] at h1
      refine h ⟨h1.1, ?_⟩
      rw [usd, List.flatMap_cons, ← List.append_assoc] at h2
      exact (List.nodup_append.1 h2).1
/-- The links' marks are made just if each link may be, and no port is in two places. -/
theorem marks_iff (C : S29) : (marks C).isSome = true ↔ C.f11.all (lkS C) = true ∧ (usd C.f11).Nodup := by
  have h0 : tk0 C = tkOf C.f10.length [] := by
    unfold tk0 tkOf
    apply List.ext_getElem?
    intro i
    by_cases hi : i < C.f10.length
    · rw [List.getElem?_replicate, if_pos hi, List.getElem?_map, List.getElem?_range hi]; simp
    · rw [List.getElem?_eq_none (by simp; omega), List.getElem?_eq_none (by simp; omega)]
  unfold marks
  rw [h0, links_eq _ _ List.nodup_nil, List.nil_append]
  split
  · rename_i h; simp [h]
  · rename_i h; simp only [Option.isSome_none, Bool.false_eq_true, false_iff]; exact h
theorem usd_lt {C : S29} {L : List S61} (h : L.all (lkS C) = true) : ∀ x ∈ usd L, x ∈ upto C.f10.length := by
  intro x hx
  obtain ⟨l, hl, hm⟩ := List.mem_flatMap.1 hx
  have hs := List.all_eq_true.1 h l hl
  unfold lkS at hs
  cases hd : hdS C l with
  | none => rw [hd] at hs; cases hs
  | some s =>
    rw [hd] at hs
    rw [mem_upto]
    rcases List.mem_cons.1 hm with rfl | hm
    · exact (hd_lt hd).1
    · exact dst_lt (List.all_eq_true.1 hs x hm)
theorem usd_long {C : S29} {k : Nat} (h : (C.f11.take k).all (lkS C) = true) (hl : C.f10.length < (usd (C.f11.take k)).length) : ¬ (marks C).isSome = true := by
  rw [marks_iff]
  rintro ⟨-, hn⟩
  have hsub : (usd C.f11) = usd (C.f11.take k) ++ usd (C.f11.drop k) := by
    unfold usd
    rw [← List.flatMap_append, List.take_append_drop]
  rw [hsub] at hn
  have := nodup_le (List.nodup_append.1 hn).1 (usd_lt h)
  rw [upto_len] at this
  omega
theorem usd_counts {C : S29} (h : C.f11.all (lkS C) = true) : (marks C).isSome = true ↔ ∀ n : Nat, n < C.f10.length → (usd C.f11).count (n : Int) ≤ 1 := by
  rw [marks_iff]
  constructor
  · rintro ⟨-, hn⟩ n _
    exact List.nodup_iff_count.1 hn _
  · intro hc
    refine ⟨h, List.nodup_iff_count.2 fun a => ?_⟩
    by_cases ha : a ∈ usd C.f11
    · obtain ⟨h0, h1⟩ := mem_upto.1 (usd_lt h a ha)
      have := hc a.toNat (by omega)
      rwa [show ((a.toNat : Nat) : Int) = a by omega] at this
    · rw [List.count_eq_zero.2 ha]; omega
theorem usd_take {L : List S61} {k : Nat} {x : S61} (h : L[k]? = some x) : usd (L.take (k + 1)) = usd (L.take k) ++ lkU x := by
  unfold usd
  rw [List.take_add_one, h, List.flatMap_append]
  simp
end Go.Proofs.Ytehbabkgaecoaaa
