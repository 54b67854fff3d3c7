/- The plain law of GuardShifted: a clock that is ahead by as much as all shots come earlier, judges alike. -/
import Derived.Test.YtloibbfihkfeeaaGG
namespace Go.Proofs.Ytloibbfihkfeeaa
set_option linter.unusedVariables false
set_option linter.unusedSimpArgs false
open Go.RowKit Go.Shelf Go.Proofs.YtloibbfihkfeeaaW.PrintWords

def shf (b : Int) (x : Sh) : Sh := ⟨x.f0, x.f1 - b, x.f2 - b⟩
theorem lies_shf (length offset b : Int) (x : Sh) : liesW length (offset + b) (shf b x) = liesW length offset x := by
  unfold liesW shf
  dsimp only
  rw [show x.f1 - b + (offset + b) = x.f1 + offset by omega, show x.f2 - b + (offset + b) = x.f2 + offset by omega]
  by_cases h : x.f2 ≤ x.f1
  · rw [if_pos (.inl (by omega)), if_pos (.inl h)]
  · simp only [h, show ¬ (x.f2 - b ≤ x.f1 - b) by omega, false_or]
theorem verdict_shf (C : S28) (length offset b : Int) (x : Sh) : verdictW C length (offset + b) (shf b x) = verdictW C length offset x := by
  unfold verdictW
  rw [lies_shf]
  by_cases h : x.f2 ≤ x.f1
  · rw [if_pos (show (shf b x).f2 ≤ (shf b x).f1 by simp only [shf]; omega), if_pos h]
  · rw [if_neg (show ¬ (shf b x).f2 ≤ (shf b x).f1 by simp only [shf]; omega), if_neg h]
    rfl
theorem clsh_shf (b : Int) (x y : Sh) : clsh (shf b x) (shf b y) = clsh x y := by
  unfold clsh shf mxi mni
  dsimp only
  congr 1
  apply propext
  constructor <;> intro h <;> (split at h <;> split at h <;> split <;> split <;> omega)
theorem psd_shf (b : Int) (l : List Sh) (out : List Int) : ∀ k, psd (l.map (shf b)) out k = (psd l out k).map (shf b)
  | 0 => rfl
  | k + 1 => by
    rw [psd, psd, psd_shf b l out k, List.map_append, List.getElem?_map]
    congr 1
    cases h1 : l[k]? with
    | none => rfl
    | some x =>
      cases h2 : out[k]? with
      | none => rfl
      | some v =>
        simp only [Option.map_some]
        by_cases hv : v = 0 <;> simp [hv]
theorem step_shf (C : S28) (length offset b : Int) (l : List Sh) (out : List Int) (x : Sh) : stepV C length (offset + b) (l.map (shf b)) out (shf b x) = stepV C length offset l out x := by
  unfold stepV
  rw [verdict_shf, psd_shf, List.any_map, show (clsh (shf b x) ∘ shf b) = clsh x from funext fun y => clsh_shf b x y]
theorem thr_shf (C : S28) (length offset b : Int) (l : List Sh) : ∀ k, thr C length (offset + b) (l.map (shf b)) k = thr C length offset l k
  | 0 => rfl
  | k + 1 => by
    rw [thr, thr, thr_shf C length offset b l k, List.getElem?_map]
    congr 1
    cases h1 : l[k]? with
    | none => rfl
    | some x => simp only [Option.map_some]; rw [step_shf]
/-- A shot within the bounds that the statement keeps to. -/
def near (x : Sh) : Bool := decide (-576460752303423488 ≤ x.f1) && decide (x.f1 ≤ 576460752303423488) && decide (-576460752303423488 ≤ x.f2) && decide (x.f2 ≤ 576460752303423488)
theorem near_ok {b : Int} (h1 : -1000 < b) (h2 : b < 1000) {x : Sh} (h : near x = true) : shotOk (shf b x) = true := by
  simp only [near, Bool.and_eq_true, decide_eq_true_eq] at h
  unfold shotOk shf mxi mni
  rw [Bool.and_eq_true]
  dsimp only
  constructor <;> refine decide_eq_true ?_ <;> split <;> omega
theorem near_ok0 {x : Sh} (h : near x = true) : shotOk x = true := by
  have := near_ok (b := 0) (by omega) (by omega) h
  simpa [shf] using this
theorem may_shf (C : S28) (length offset b : Int) (l : List Sh) (h1 : -1000 < b) (h2 : b < 1000) (o1 : -1000000 ≤ offset) (o2 : offset ≤ 1000000) (hl : l.all near = true) : mayW C length (offset + b) (l.map (shf b)) = mayW C length offset l := by
  have a1 : l.all shotOk = true := List.all_eq_true.2 fun x hx => near_ok0 (List.all_eq_true.1 hl x hx)
  have a2 : (l.map (shf b)).all shotOk = true := List.all_eq_true.2 fun y hy => by
    obtain ⟨x, hx, rfl⟩ := List.mem_map.1 hy
    exact near_ok h1 h2 (List.all_eq_true.1 hl x hx)
  unfold mayW
  rw [a1, a2, if_neg (show ¬ (offset + b < -1073741824 ∨ 1073741824 < offset + b) by omega), if_neg (show ¬ (offset < -1073741824 ∨ 1073741824 < offset) by omega)]
end Go.Proofs.Ytloibbfihkfeeaa
