/- 'Covered', and what callers of the three functions want. -/
import Derived.Test.YthnpacnmghlkmaaFit
namespace Go.Proofs.Ythnpacnmghlkmaa
open Go.RowKit Go.Shelf Go.Proofs.Ythnpacnmghlkmaa.Px Go.Proofs.YthnpacnmghlkmaaW.PrintWords Go.Proofs.YthnpacnmghlkmaaW.PrintLast
attribute [local go_sem] Oper.semAt_some

def coveredOf (n : Int) (l : List S52) : Int := if hn : 1 ≤ n then countOf (takenOf n hn (List.replicate n.toNat false) l) else 0
def ring_Covered.f (k : Nat) (l : List S52) (n : Int) : Option (Int × Int) := if l.length ≤ 35184372088832 then (ring_may.f k n l).bind fun e => (if e = 0 then some (coveredOf n l, 0) else some (0, e)) else none
theorem ring_Covered.mono : ∀ a0 a1 k, LeO (ring_Covered.f k a0 a1) (ring_Covered.f (k + 1) a0 a1) := fun a0 a1 k => by
  unfold ring_Covered.f
  exact LeO.ite (LeO.bind (ring_may.mono _ _ _) (fun _ => LeO.refl _)) (LeO.refl _)
theorem ring_Gaps.mono : ∀ a0 a1 k, LeO (ring_Gaps.f k a0 a1) (ring_Gaps.f (k + 1) a0 a1) := fun a0 a1 k => by
  unfold ring_Gaps.f
  exact LeO.ite (LeO.bind (ring_may.mono _ _ _) (fun _ => LeO.refl _)) (LeO.refl _)
theorem ring_Fit.mono : ∀ a0 a1 a2 k, LeO (ring_Fit.f k a0 a1 a2) (ring_Fit.f (k + 1) a0 a1 a2) := fun a0 a1 a2 k => by
  unfold ring_Fit.f
  exact LeO.bind (ring_Gaps.mono _ _ _) (fun _ => LeO.refl _)

set_option maxRecDepth 100000 in
set_option maxHeartbeats 2000000 in
theorem ring_Covered.calls (k : Nat) (A0 : Option Addr) (c0 : Nat) (l0 : List S52) (a1 : Int) (r1 r2 : Int) (w : World) (hr0 : Kd.C k52 w A0 l0.length l0) (hc0 : l0.length ≤ c0) (h : ring_Covered.f k l0 a1 = some (r1, r2)) :
    Calls Try.prog 27 #[.slice A0 l0.length c0, .int .i64 a1] w fun e w' => e = .returned (.tuple #[.int .i64 r1, .int .i64 r2]) ∧ Below w.heap.size w w' := by
  have HR := Lib.hid hr0
  clear hr0
  unfold ring_Covered.f at h
  by_cases hlen : l0.length ≤ 35184372088832
  case neg => rw [if_neg hlen] at h; cases h
  rw [if_pos hlen] at h
  obtain ⟨e, hm, h2⟩ := Option.bind_eq_some_iff.1 h
  clear h
  have HM := Lib.hid hm
  go_enter Try.func27, Try.ntmps27
  by_cases he : e = 0
  · subst he
    rw [if_pos rfl] at h2
    obtain ⟨hn, hn2, hok⟩ := may_ok hlen hm
    have HOK := Lib.hid hok
    clear hok hm
    obtain ⟨N, rfl⟩ : ∃ N : Nat, a1 = N := ⟨a1.toNat, by omega⟩
    simp only [Option.some.injEq, Prod.mk.injEq] at h2
    obtain ⟨h2, rfl⟩ := h2
    have h3 : r1 = countOf (takenOf N hn (List.replicate N false) l0) := by
      rw [← h2]; unfold coveredOf; rw [dif_pos hn]; rfl
    subst h3
    clear h2
    go_wp2_with fail
    refine (ring_may.calls k _ _ _ _ _ _ HR.out hc0 HM.out).mono ?_
    rintro e W1 ⟨rfl, hb1⟩
    go_wp2_with fail
    refine (taken_calls W1 _ _ _ N (Kd.C_below HR.out hb1) hc0 hlen hn (by omega) HOK.out).mono ?_
    rintro e W2 ⟨v, rfl, hR, hb2⟩
    have hbb := below_step hb1 hb2
    obtain ⟨A, c, rfl⟩ := Kd.R_slice hR
    go_wp2
    refine bodyPost_ret (v := .tuple #[.int .i64 (countOf (takenOf N hn (List.replicate N false) l0)), .int .i64 0]) (by simp [results, Try.f27, go_sem]) rfl ?_
    exact ⟨rfl, hbb⟩
  · rw [if_neg he] at h2
    have hzb : (e != 0) = true := bne_iff_ne.mpr he
    cases h2
    clear hm
    go_wp2_with fail
    refine (ring_may.calls k _ _ _ _ _ _ HR.out hc0 HM.out).mono ?_
    rintro e W1 ⟨rfl, hb1⟩
    go_wp2
    refine bodyPost_ret (v := .tuple #[.int .i64 0, .int .i64 r2]) (by simp [results, Try.f27, go_sem]) rfl ?_
    exact ⟨rfl, hb1⟩
end Go.Proofs.Ythnpacnmghlkmaa
