/- What 'Fit' answers: where there is room. -/
import Derived.Test.YthnpacnmghlkmaaGaps
import Derived.Test.YthnpacnmghlkmaaPx2
namespace Go.Proofs.Ythnpacnmghlkmaa
open Go.RowKit Go.Shelf Go.Proofs.Ythnpacnmghlkmaa.Px Go.Proofs.YthnpacnmghlkmaaW.PrintWords Go.Proofs.YthnpacnmghlkmaaW.PrintLast
attribute [local go_sem] Oper.semAt_some

theorem gapsTo_ok {n : Int} {hn : 1 ≤ n} {has : List Bool} : ∀ (x : Nat), (x : Int) ≤ n → ∀ a ∈ gapsTo n hn has x, ArcOk n a := by
  intro x
  induction x with
  | zero => intro _ a ha; simp [gapsTo] at ha
  | succ x ih =>
    intro hx a ha
    rw [gapsTo, List.mem_append] at ha
    rcases ha with ha | ha
    · exact ih (by omega) a ha
    · unfold gapStep at ha
      split at ha
      · simp at ha
      · rw [List.mem_singleton] at ha
        subst ha
        refine ⟨by simp, by simp; omega, by simp [gapLen], ?_⟩
        have h1 := (List.takeWhile_prefix (fun p : PL n => !hasAt has p.1) (l := upto (placeAt (x : Int) n hn) n.toNat)).length_le
        rw [upto_length] at h1
        simp only [gapLen]
        omega
theorem gaps_ok {k : Nat} {l gs : List S52} {n : Int} (h : ring_Gaps.f k l n = some (gs, 0)) : 1 ≤ n ∧ n ≤ 1048576 ∧ (∀ a ∈ gs, ArcOk n a) ∧ gs.length ≤ 1048576 := by
  unfold ring_Gaps.f at h
  by_cases hl : l.length ≤ 35184372088832
  case neg => rw [if_neg hl] at h; cases h
  rw [if_pos hl] at h
  obtain ⟨e, hm, h2⟩ := Option.bind_eq_some_iff.1 h
  by_cases he : e = 0
  · subst he
    obtain ⟨h1, h3, _⟩ := may_ok hl hm
    rw [if_pos rfl] at h2
    simp only [Option.some.injEq, Prod.mk.injEq, and_true] at h2
    subst h2
    refine ⟨h1, h3, ?_, ?_⟩
    · unfold gapsOf
      rw [dif_pos h1]
      split
      · intro a ha
        rw [List.mem_singleton] at ha
        subst ha
        exact ⟨by simp, by simp; omega, by simp; omega, by simp⟩
      · exact gapsTo_ok _ (by omega)
    · unfold gapsOf
      rw [dif_pos h1]
      split
      · simp
      · have := gapsTo_len (n := n) (hn := h1) (has := takenOf n h1 (List.replicate n.toNat false) l) n.toNat
        omega
  · rw [if_neg he] at h2
    simp only [Option.some.injEq, Prod.mk.injEq] at h2
    exact absurd h2.2 he

def fitLook (b at_ : Int) : Int := if b < 0 then at_ else if at_ < b then at_ else b
def fitStep (size n b : Int) (g : S52) : Int := if size < 1 then b else if size > g.f1 then b else if g.f0 + g.f1 - size ≥ n then fitLook (fitLook b g.f0) 0 else fitLook b g.f0
def ring_Fit.f (k : Nat) (l : List S52) (size n : Int) : Option (Int × Int) := (ring_Gaps.f k l n).bind fun g => if g.2 = 0 then (if g.1.foldl (fitStep size n) (-1) < 0 then some (0, 2) else some (g.1.foldl (fitStep size n) (-1), 0)) else some (0, g.2)

/-- What the loop keeps. -/
def FK (w : World) (B : Nat) (v : Value) (gs : List S52) (b : Int) (W : World) : Prop :=
  W.heap[B]? = some (Obj.cells #[.int .i64 b] 3 (0, 0)) ∧ Kd.R k52 52 W w.heap.size (fun _ => True) v gs ∧ Below w.heap.size w W
theorem fk_step {w : World} {B : Nat} {v : Value} {gs : List S52} {b b' : Int} {W W' : World} (h : FK w B v gs b W) (hB : w.heap.size ≤ B) (hv : some B ≠ v.ownBlock) (hg : W.grownBy W' (some B)) (hb : W'.heap[B]? = some (Obj.cells #[.int .i64 b'] 3 (0, 0))) : FK w B v gs b' W' :=
  ⟨hb, Kd.R_grown1 h.2.1 rfl hg hv, h.2.2.grown hg h.2.2.size (fun k e => by cases e; exact hB)⟩
theorem fk_alloc {w : World} {B : Nat} {v : Value} {gs : List S52} {b : Int} {W : World} (h : FK w B v gs b W) (o : Obj) : FK w B v gs b (W.alloc o) :=
  ⟨(Below.heap_alloc _ _ _ (blk_lt h.1)).trans h.1, Kd.R_alloc h.2.1 o, h.2.2.alloc h.2.2.size o⟩

set_option maxRecDepth 100000 in
set_option maxHeartbeats 2000000 in
theorem look_calls (W : World) (B : Nat) (b at_ : Int) (hb : W.heap[B]? = some (Obj.cells #[.int .i64 b] 3 (0, 0))) :
    Calls Try.prog 44 #[.int .i64 at_, .pointer (some ⟨B, 0, none⟩)] W fun e W' => (∃ v, e = .returned v) ∧ W.grownBy W' (some B) ∧ W'.heap[B]? = some (Obj.cells #[.int .i64 (fitLook b at_)] 3 (0, 0)) := by
  have hc := blk_cell hb 0
  have hf := blk_frozen hb 0
  go_enter Try.func44, Try.ntmps44
  by_cases c1 : b < 0
  · have e1 : decide (b < 0) = true := decide_eq_true c1
    go_wp2
    go_end0
    have := blk_set hb 0 (.int .i64 at_)
    exact ⟨⟨_, rfl⟩, grownBy_setCell' _ _ _, by rw [fitLook, if_pos (by omega)]; simpa using this⟩
  · have e1 : decide (b < 0) = false := decide_eq_false c1
    by_cases c2 : at_ < b
    · have e2 : decide (at_ < b) = true := decide_eq_true c2
      go_wp2
      go_end0
      have := blk_set hb 0 (.int .i64 at_)
      exact ⟨⟨_, rfl⟩, grownBy_setCell' _ _ _, by rw [fitLook, if_neg (by omega), if_pos (by omega)]; simpa using this⟩
    · have e2 : decide (at_ < b) = false := decide_eq_false c2
      go_wp2
      go_end0
      exact ⟨⟨_, rfl⟩, World.grownBy.refl _ _, by rw [fitLook, if_neg (by omega), if_neg (by omega)]; exact hb⟩

set_option maxRecDepth 100000 in
set_option maxHeartbeats 4000000 in
theorem ring_Fit.calls (k : Nat) (A0 : Option Addr) (c0 : Nat) (l0 : List S52) (a1 a2 : Int) (r1 r2 : Int) (w : World) (hr0 : Kd.C k52 w A0 l0.length l0) (hc0 : l0.length ≤ c0) (h : ring_Fit.f k l0 a1 a2 = some (r1, r2)) :
    Calls Try.prog 31 #[.slice A0 l0.length c0, .int .i64 a1, .int .i64 a2] w fun e w' => e = .returned (.tuple #[.int .i64 r1, .int .i64 r2]) ∧ Below w.heap.size w w' := by
  have HR := Lib.hid hr0
  clear hr0
  obtain ⟨⟨gs, e⟩, hgf, h2⟩ := Option.bind_eq_some_iff.1 h
  clear h
  have HG := Lib.hid hgf
  go_enter Try.func31, Try.ntmps31
  go_wp2_with fail
  refine (ring_Gaps.calls k _ _ _ _ _ _ _ HR.out hc0 HG.out).mono ?_
  rintro e' W1 ⟨v, rfl, hR, hb1⟩
  by_cases he : e = 0
  · subst he
    obtain ⟨hn, hn2, hok, hgl⟩ := gaps_ok hgf
    clear hgf
    rw [if_pos rfl] at h2
    have HOK := Lib.hid hok
    clear hok
    have hnB : some W1.heap.size ≠ v.ownBlock := Kd.R_ne_new hR 0
    obtain ⟨A, c, rfl⟩ := Kd.R_slice hR
    have H2 := Lib.hid h2
    clear h2
    have hwB : w.heap.size ≤ W1.heap.size := hb1.size
    have hF : FK w W1.heap.size (.slice A gs.length c) gs (-1) (W1.alloc (Obj.cells #[.int .i64 (-1)] 3)) := ⟨World.alloc_heap_new _ _, Kd.R_alloc hR _, hb1.alloc hb1.size _⟩
    have HF := Lib.hid hF
    clear hF hR
    go_wp2
    generalize W1.heap.size = B at *
    go_loopw [26] (fun i wr => ∃ x : Nat, i = .int .i64 x ∧ x ≤ gs.length ∧ Hid (FK w B (.slice A gs.length c) gs ((gs.take x).foldl (fitStep a1 a2) (-1)) wr)) (fun i _ => gs.length - (intOf i).toNat)
    case atStart => exact ⟨0, rfl, by omega, HF⟩
    case round =>
      clear HF
      obtain ⟨x, rfl, hx, HF⟩ := hrel
      by_cases hlt : x < gs.length
      · have hlt' : (x : Int) < gs.length := by omega
        have h0x : (0 : Int) ≤ x := by omega
        have hstep : (gs.take (x + 1)).foldl (fitStep a1 a2) (-1) = fitStep a1 a2 ((gs.take x).foldl (fitStep a1 a2) (-1)) (rd_T52 gs x) := by
          have := take_rd (l := gs) (x := x) h0x hlt'
          rw [show ((x : Int) + 1).toNat = x + 1 by omega, show (x : Int).toNat = x by omega] at this
          rw [this, List.foldl_append]; rfl
        obtain ⟨ad, e105, hx_0, hx_1⟩ := at_T52 (Kd.R_reads' HF.out.2.1).2.2 x h0x hlt'
        cases e105
        rw [show (x : Int).toNat = x by omega] at hx_0 hx_1
        obtain ⟨o0, o1, o2, o3⟩ := HOK.out _ (rd_mem h0x hlt')
        generalize rd_T52 gs x = gx at *
        generalize (gs.take x).foldl (fitStep a1 a2) (-1) = b at *
        have q0 := eq_true h0x
        have q1 := eq_true hlt'
        by_cases c1 : a1 < 1
        · have e1 : decide (a1 < 1) = true := decide_eq_true c1
          go_wp2
          go_roundw
          case rel => exact ⟨x + 1, by simp, by omega, Lib.hid (by rw [hstep, fitStep, if_pos (by omega)]; exact fk_alloc HF.out _)⟩
          case measure => simp [intOf]; omega
        · have e1 : decide (a1 < 1) = false := decide_eq_false c1
          by_cases c2 : a1 > gx.f1
          · have e2 : decide (gx.f1 < a1) = true := decide_eq_true c2
            go_wp2
            go_roundw
            case rel => exact ⟨x + 1, by simp, by omega, Lib.hid (by rw [hstep, fitStep, if_neg (by omega), if_pos (by omega)]; exact fk_alloc HF.out _)⟩
            case measure => simp [intOf]; omega
          · have e2 : decide (gx.f1 < a1) = false := decide_eq_false c2
            go_wp2_with fail
            refine (look_calls _ B b gx.f0 (fk_alloc HF.out _).1).mono ?_
            rintro e W2 ⟨⟨v, rfl⟩, hg2, hb2⟩
            have hF2 := fk_step (fk_alloc HF.out _) hwB hnB hg2 hb2
            have hBr := blk_lt HF.out.1
            have hbox := blk_grown (World.alloc_heap_new wr _) hg2 (by simp; omega)
            have g0 := blk_cell hbox 0
            have g1 := blk_cell hbox 1
            clear hg2 hb2
            have HF2 := Lib.hid hF2
            clear hF2
            by_cases c3 : gx.f0 + gx.f1 - a1 ≥ a2
            · have e3 : decide (a2 ≤ gx.f0 + gx.f1 - a1) = true := decide_eq_true c3
              go_wp2_with fail
              refine (look_calls W2 B (fitLook b gx.f0) 0 HF2.out.1).mono ?_
              rintro e W3 ⟨⟨v3, rfl⟩, hg3, hb3⟩
              have HF3 := Lib.hid (fk_step HF2.out hwB hnB hg3 hb3)
              clear hg3 hb3
              go_wp2
              go_roundw
              case rel => exact ⟨x + 1, by simp, by omega, Lib.hid (by rw [hstep, fitStep, if_neg (by omega), if_neg (by omega), if_pos (by omega)]; exact HF3.out)⟩
              case measure => simp [intOf]; omega
            · have e3 : decide (a2 ≤ gx.f0 + gx.f1 - a1) = false := decide_eq_false c3
              go_wp2
              go_roundw
              case rel => exact ⟨x + 1, by simp, by omega, Lib.hid (by rw [hstep, fitStep, if_neg (by omega), if_neg (by omega), if_neg (by omega)]; exact HF2.out)⟩
              case measure => simp [intOf]; omega
      · have hxe : x = gs.length := by omega
        subst hxe
        rw [List.take_length] at HF
        have hcB := blk_cell HF.out.1 0
        have hbl := HF.out.2.2
        have h2 := H2.out
        clear H2 HF
        generalize gs.foldl (fitStep a1 a2) (-1) = b at *
        by_cases c4 : b < 0
        · have e4 : decide (b < 0) = true := decide_eq_true c4
          rw [if_pos c4] at h2
          cases h2
          go_wp2
          refine bodyPost_ret (v := .tuple #[.int .i64 0, .int .i64 2]) (by simp [results, Try.f31, go_sem]) rfl ?_
          exact ⟨rfl, hbl⟩
        · have e4 : decide (b < 0) = false := decide_eq_false c4
          rw [if_neg c4] at h2
          cases h2
          go_wp2
          refine bodyPost_ret (v := .tuple #[.int .i64 r1, .int .i64 0]) (by simp [results, Try.f31, go_sem]) rfl ?_
          exact ⟨rfl, hbl⟩
  · rw [if_neg he] at h2
    have hzb : (e != 0) = true := bne_iff_ne.mpr he
    obtain ⟨A, c, rfl⟩ := Kd.R_slice hR
    cases h2
    clear hgf
    go_wp2
    refine bodyPost_ret (v := .tuple #[.int .i64 0, .int .i64 r2]) (by simp [results, Try.f31, go_sem]) rfl ?_
    exact ⟨rfl, hb1⟩
end Go.Proofs.Ythnpacnmghlkmaa
