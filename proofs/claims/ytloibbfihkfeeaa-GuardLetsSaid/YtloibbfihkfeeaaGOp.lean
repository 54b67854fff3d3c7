/- The plain law of GuardOthers: what others send makes no difference. -/
import Derived.Test.YtloibbfihkfeeaaGAp
namespace Go.Proofs.Ytloibbfihkfeeaa
set_option linter.unusedVariables false
set_option linter.unusedSimpArgs false
open Go.RowKit Go.Shelf Go.Proofs.YtloibbfihkfeeaaW.PrintWords

theorem psd_app (l r : List Sh) (out : List Int) : ∀ k, k ≤ l.length → psd (l ++ r) out k = psd l out k
  | 0, _ => rfl
  | k + 1, h => by rw [psd, psd, psd_app l r out k (by omega), List.getElem?_append_left (by omega)]
theorem thr_app (C : S28) (length offset : Int) (l r : List Sh) : ∀ k, k ≤ l.length → thr C length offset (l ++ r) k = thr C length offset l k
  | 0, _ => rfl
  | k + 1, h => by
    obtain ⟨x, hx⟩ : ∃ x, l[k]? = some x := ⟨_, List.getElem?_eq_getElem (by omega)⟩
    have hx' : (l ++ r)[k]? = some x := by rw [List.getElem?_append_left (by omega)]; exact hx
    rw [thr_at hx', thr_at hx, thr_app C length offset l r k (by omega), stepV, stepV, psd_app _ _ _ _ (by rw [thr_len]; omega)]
theorem thr_snoc (C : S28) (length offset : Int) (l : List Sh) (x : Sh) : thr C length offset (l ++ [x]) (l ++ [x]).length = thr C length offset l l.length ++ [stepV C length offset l (thr C length offset l l.length) x] := by
  have hx : (l ++ [x])[l.length]? = some x := by simp
  rw [List.length_append, show [x].length = 1 from rfl, thr_at hx, thr_app _ _ _ _ _ _ (Nat.le_refl _), stepV, stepV, psd_app _ _ _ _ (by rw [thr_len]; omega)]
theorem psd_out (l : List Sh) (o1 o2 : List Int) : ∀ k, (∀ m, m < k → o1[m]? = o2[m]?) → psd l o1 k = psd l o2 k
  | 0, _ => rfl
  | k + 1, h => by rw [psd, psd, psd_out l o1 o2 k (fun m hm => h m (by omega)), h k (by omega)]
theorem zip_at {l : List Sh} {out : List Int} {k : Nat} {x : Sh} {v : Int} (hx : l[k]? = some x) (hv : out[k]? = some v) : (l.zip out)[k]? = some (x, v) := by
  rw [List.getElem?_zip_eq_some]; exact ⟨hx, hv⟩
theorem psd_zip (l : List Sh) (out : List Int) : ∀ k, k ≤ l.length → k ≤ out.length → psd l out k = (((l.zip out).take k).filter (fun p => decide (p.2 = 0))).map Prod.fst
  | 0, _, _ => by simp [psd]
  | k + 1, h1, h2 => by
    have ih := psd_zip l out k (by omega) (by omega)
    obtain ⟨x, hx⟩ : ∃ x, l[k]? = some x := ⟨_, List.getElem?_eq_getElem (by omega)⟩
    obtain ⟨v, hv⟩ : ∃ v, out[k]? = some v := ⟨_, List.getElem?_eq_getElem (by omega)⟩
    rw [List.take_add_one, zip_at hx hv, List.filter_append, List.map_append, ← ih]
    by_cases h0 : v = 0
    · rw [psd_hit hx hv h0]; simp [h0]
    · rw [psd_miss hv h0]; simp [h0]
def isN (node : Int) (p : Sh × Int) : Bool := decide (p.1.f0 = node)
def ownOf (node : Int) (z : List (Sh × Int)) : List Sh := (z.filter (isN node)).map Prod.fst
def wantOf (node : Int) (z : List (Sh × Int)) : List Int := (z.filter (isN node)).map Prod.snd
theorem ownOf_len (node : Int) (z : List (Sh × Int)) : (ownOf node z).length = (wantOf node z).length := by simp [ownOf, wantOf]
theorem zip_of (z : List (Sh × Int)) : (z.map Prod.fst).zip (z.map Prod.snd) = z := by induction z <;> simp_all
theorem own_hit {node : Int} {z : List (Sh × Int)} {k : Nat} {x : Sh} {v : Int} (hz : z[k]? = some (x, v)) (h : x.f0 = node) : ownOf node (z.take (k + 1)) = ownOf node (z.take k) ++ [x] ∧ wantOf node (z.take (k + 1)) = wantOf node (z.take k) ++ [v] := by
  have hi : isN node (x, v) = true := decide_eq_true h
  unfold ownOf wantOf
  rw [List.take_add_one, hz, List.filter_append, List.map_append, List.map_append]
  simp [hi]
theorem own_miss {node : Int} {z : List (Sh × Int)} {k : Nat} {x : Sh} {v : Int} (hz : z[k]? = some (x, v)) (h : ¬ x.f0 = node) : ownOf node (z.take (k + 1)) = ownOf node (z.take k) ∧ wantOf node (z.take (k + 1)) = wantOf node (z.take k) := by
  have hi : isN node (x, v) = false := decide_eq_false h
  unfold ownOf wantOf
  rw [List.take_add_one, hz, List.filter_append, List.map_append, List.map_append]
  simp [hi]
theorem verdict_zero {C : S28} {length offset : Int} {x : Sh} (h : verdictW C length offset x = 0) : x.f1 < x.f2 ∧ liesW length offset x = (x.f1 + offset) / length ∧ liesW length offset x = (x.f2 + offset - 1) / length ∧ ownerW C (liesW length offset x) = x.f0 := by
  obtain ⟨h1, h2⟩ := (mine_iff C length offset x).2 h
  have hne : ¬ (x.f2 ≤ x.f1 ∨ x.f1 + offset < 0 ∨ (x.f1 + offset) / length ≠ (x.f2 + offset - 1) / length) := by
    intro hc
    unfold liesW at h1
    rw [if_pos hc] at h1
    omega
  have he : liesW length offset x = (x.f1 + offset) / length := by unfold liesW; rw [if_neg hne]
  refine ⟨by omega, he, ?_, h2⟩
  rw [he]
  by_cases hq : (x.f1 + offset) / length = (x.f2 + offset - 1) / length
  · exact hq
  · exact absurd (.inr (.inr hq)) hne
/-- Two that may pass, and meet, lie in one slot. -/
theorem same_lies {C : S28} {length offset : Int} {x y : Sh} (hl : 1 ≤ length) (hx : verdictW C length offset x = 0) (hy : verdictW C length offset y = 0) (hc : clsh x y = true) : liesW length offset y = liesW length offset x := by
  obtain ⟨-, x1, x2, x3⟩ := verdict_zero hx
  obtain ⟨-, y1, y2, y3⟩ := verdict_zero hy
  obtain ⟨c1, c2, -, -⟩ := (clsh_iff x y).1 hc
  have d1 : (y.f1 + offset) / length ≤ (x.f2 + offset - 1) / length := Int.ediv_le_ediv (by omega) (by omega)
  have d2 : (x.f1 + offset) / length ≤ (y.f2 + offset - 1) / length := Int.ediv_le_ediv (by omega) (by omega)
  omega
/-- Two that may pass, and meet, are of one node. -/
theorem same_node {C : S28} {length offset : Int} {x y : Sh} (hl : 1 ≤ length) (hx : verdictW C length offset x = 0) (hy : verdictW C length offset y = 0) (hc : clsh x y = true) : y.f0 = x.f0 := by
  rw [← (verdict_zero hx).2.2.2, ← (verdict_zero hy).2.2.2, same_lies hl hx hy hc]
theorem step_zero {C : S28} {length offset : Int} {l : List Sh} {out : List Int} {x : Sh} (h : stepV C length offset l out x = 0) : verdictW C length offset x = 0 := by
  unfold stepV at h
  split at h
  · omega
  · exact h
theorem others_law (C : S28) (length offset : Int) (hl : 1 ≤ length) (node : Int) (l : List Sh) (z : List (Sh × Int)) (hz : z = l.zip (thr C length offset l l.length)) : ∀ k, k ≤ l.length →
    thr C length offset (ownOf node (z.take k)) (ownOf node (z.take k)).length = wantOf node (z.take k)
  | 0, _ => by simp [ownOf, wantOf, thr]
  | k + 1, hk => by
    have ih := others_law C length offset hl node l z hz k (by omega)
    obtain ⟨x, hx⟩ : ∃ x, l[k]? = some x := ⟨_, List.getElem?_eq_getElem (by omega)⟩
    have hv := thr_said (C := C) (length := length) (offset := offset) (n := l.length) (i := k) (by omega) hx
    have hzk := zip_at hx hv
    rw [← hz] at hzk
    by_cases hn : x.f0 = node
    case neg => rw [(own_miss hzk hn).1, (own_miss hzk hn).2]; exact ih
    rw [(own_hit hzk hn).1, (own_hit hzk hn).2, thr_snoc, ih]
    congr 2
    unfold stepV
    by_cases h0 : verdictW C length offset x = 0
    case neg => rw [if_neg (fun h => h0 h.1), if_neg (fun h => h0 h.1)]
    have hany : (psd (ownOf node (z.take k)) (wantOf node (z.take k)) (wantOf node (z.take k)).length).any (clsh x) = (psd l (thr C length offset l k) (thr C length offset l k).length).any (clsh x) := by
      rw [thr_len, psd_out l _ (thr C length offset l l.length) k (fun m hm => (thr_get l.length (by omega) hm).symm), psd_zip l _ k (by omega) (by rw [thr_len]; omega), ← hz]
      rw [psd_zip _ _ _ (by rw [ownOf_len]; exact Nat.le_refl _) (Nat.le_refl _)]
      rw [List.take_of_length_le (by rw [List.length_zip, ownOf_len]; omega)]
      rw [show (ownOf node (z.take k)).zip (wantOf node (z.take k)) = (z.take k).filter (isN node) from zip_of _]
      rw [Bool.eq_iff_iff, List.any_eq_true, List.any_eq_true]
      constructor
      · rintro ⟨y, hy, hc⟩
        obtain ⟨p, hp, rfl⟩ := List.mem_map.1 hy
        obtain ⟨hp1, hp2⟩ := List.mem_filter.1 hp
        exact ⟨p.1, List.mem_map.2 ⟨p, List.mem_filter.2 ⟨(List.mem_filter.1 hp1).1, hp2⟩, rfl⟩, hc⟩
      · rintro ⟨y, hy, hc⟩
        obtain ⟨p, hp, rfl⟩ := List.mem_map.1 hy
        obtain ⟨hp1, hp2⟩ := List.mem_filter.1 hp
        refine ⟨p.1, List.mem_map.2 ⟨p, List.mem_filter.2 ⟨List.mem_filter.2 ⟨hp1, ?_⟩, hp2⟩, rfl⟩, hc⟩
        obtain ⟨m, hm⟩ := List.mem_iff_getElem?.1 (List.mem_of_mem_take hp1)
        rw [hz, List.getElem?_zip_eq_some] at hm
        obtain ⟨hm1, hm2⟩ := hm
        have hml : m < l.length := (List.getElem?_eq_some_iff.1 hm1).1
        have hs := thr_said (C := C) (length := length) (offset := offset) (n := l.length) hml hm1
        rw [hm2] at hs
        have hp0 : p.2 = 0 := of_decide_eq_true hp2
        rw [hp0] at hs
        injection hs with hs
        have hv0 := step_zero hs.symm
        unfold isN
        rw [decide_eq_true_eq, ← hn]
        exact same_node hl h0 hv0 hc
    rw [hany]
end Go.Proofs.Ytloibbfihkfeeaa
