/- config.Decode: what its closures stand on: the text that is left, whether all is well; next, and many. -/
import Derived.Test.YtehbabkgaecoaaaDN
namespace Go.Proofs.Ytehbabkgaecoaaa
set_option linter.unusedVariables false
set_option linter.unusedSimpArgs false
open Go.RowKit Go.Shelf Go.Proofs.YtehbabkgaecoaaaW.PrintWords Go.Proofs.YtehbabkgaecoaaaW.PrintLast

/-- Decode's own variables: what is left, whether all is well, the three function values. -/
structure DSt (w : World) (r : List Int) (f : Bool) (W : World) : Prop where
  F : W.heap[w.heap.size + 2]? = some (Obj.cells #[.bool f] 4 (0, 0))
  R : ∃ A c, W.heap[w.heap.size + 1]? = some (Obj.cells #[.slice A r.length c] 22 (0, 0)) ∧ Kd.C kU w A r.length r ∧ r.length ≤ c
  N : W.heap[w.heap.size + 3]? = some (Obj.cells #[(Value.func (.func 36) #[] #[.pointer (some ⟨w.heap.size + 2, 0, none⟩), .pointer (some ⟨w.heap.size + 1, 0, none⟩)])] 67 (0, 0))
  M : W.heap[w.heap.size + 4]? = some (Obj.cells #[(Value.func (.func 37) #[] #[.pointer (some ⟨w.heap.size + 3, 0, none⟩), .pointer (some ⟨w.heap.size + 2, 0, none⟩)])] 72 (0, 0))
  L : W.heap[w.heap.size + 5]? = some (Obj.cells #[(Value.func (.func 38) #[] #[.pointer (some ⟨w.heap.size + 4, 0, none⟩), .pointer (some ⟨w.heap.size + 3, 0, none⟩)])] 68 (0, 0))
  B : Below w.heap.size w W
  b : ∀ x ∈ r, Byte x
/-- All but the text and the flag is as it was. -/
def KpD (w W W' : World) : Prop := Keep2 W W' (w.heap.size + 2) (w.heap.size + 1) none
theorem KpD.refl (w W : World) : KpD w W W := ⟨Nat.le_refl _, fun _ _ _ _ _ => rfl⟩
theorem KpD.trans {w W V U : World} (h : KpD w W V) (g : KpD w V U) : KpD w W U := ⟨Nat.le_trans h.1 g.1, fun i hi h1 h2 h3 => (g.2 i (Nat.lt_of_lt_of_le hi h.1) h1 h2 h3).trans (h.2 i hi h1 h2 h3)⟩
theorem KpD.blk {w W V : World} (h : KpD w W V) {g : Nat} {o : Obj} (hb : W.heap[g]? = some o) (h1 : g ≠ w.heap.size + 2) (h2 : g ≠ w.heap.size + 1) : V.heap[g]? = some o := (h.2 g (blk_lt hb) h1 h2 (by simp)).trans hb
theorem KpD.below {w W V : World} (hb : Below W.heap.size W V) : KpD w W V := ⟨hb.size, fun i hi _ _ _ => hb.block i hi⟩
theorem DSt.keep {w W V : World} {r : List Int} {f : Bool} (h : DSt w r f W) (hk : ∀ i, i < w.heap.size + 6 → V.heap[i]? = W.heap[i]?) (hB : Below w.heap.size w V) : DSt w r f V := by
  obtain ⟨A, c, h1, h2, h3⟩ := h.R
  exact ⟨(hk _ (by omega)).trans h.F, ⟨A, c, (hk _ (by omega)).trans h1, h2, h3⟩, (hk _ (by omega)).trans h.N, (hk _ (by omega)).trans h.M, (hk _ (by omega)).trans h.L, hB, h.b⟩
theorem DSt.size {w W : World} {r : List Int} {f : Bool} (h : DSt w r f W) : w.heap.size + 6 ≤ W.heap.size := by
  have := blk_lt h.L
  omega
theorem DSt.below {w W V : World} {r : List Int} {f : Bool} (h : DSt w r f W) (hb : Below W.heap.size W V) : DSt w r f V :=
  h.keep (fun i hi => hb.block i (Nat.lt_of_lt_of_le hi h.size)) (below_step h.B hb)
theorem DSt.set {w W : World} {r : List Int} {f : Bool} (h : DSt w r f W) {p : Addr} (hp : w.heap.size + 6 ≤ p.block) (v : Value) : DSt w r f (W.setCell p v) :=
  h.keep (fun i hi => Below.heap_setCell W p v i (by omega)) (h.B.setCell (by omega) v)
theorem DSt.fine {w W : World} {r : List Int} {f : Bool} (h : DSt w r f W) (g : Bool) : DSt w r g (W.setCell ⟨w.heap.size + 2, 0, none⟩ (.bool g)) ∧ KpD w W (W.setCell ⟨w.heap.size + 2, 0, none⟩ (.bool g)) := by
  obtain ⟨A, c, h1, h2, h3⟩ := h.R
  refine ⟨⟨blk_set h.F 0 _, ⟨A, c, blk_far h1 (p := ⟨w.heap.size + 2, 0, none⟩) (by simp) _, h2, h3⟩, blk_far h.N (p := ⟨w.heap.size + 2, 0, none⟩) (by simp) _, blk_far h.M (p := ⟨w.heap.size + 2, 0, none⟩) (by simp) _, blk_far h.L (p := ⟨w.heap.size + 2, 0, none⟩) (by simp) _, h.B.setCell (by simp) _, h.b⟩, ?_⟩
  exact ⟨by rw [World.size_setCell]; exact Nat.le_refl _, fun i _ h1 _ _ => Below.heap_setCell W ⟨w.heap.size + 2, 0, none⟩ _ i h1⟩
theorem nextD_mem {l : List Int} {b : Bool} {x : Int} (h : x ∈ (nextD l b).2.1) : x ∈ l := by
  unfold nextD at h
  split at h
  · exact List.mem_of_mem_drop h
  · exact h
/-- Next, on Decode's own variables. -/
theorem DSt.next {w W : World} {r : List Int} {f : Bool} (h : DSt w r f W) : Calls Try.prog 36 #[.pointer (some ⟨w.heap.size + 2, 0, none⟩), .pointer (some ⟨w.heap.size + 1, 0, none⟩)] W fun e W' => e = .returned (.int .i64 (nextD r f).1) ∧ DSt w (nextD r f).2.1 (nextD r f).2.2 W' ∧ KpD w W W' := by
  obtain ⟨A, c, h1, h2, h3⟩ := h.R
  refine (next_calls (w.heap.size + 2) (w.heap.size + 1) f A c r w W h.F h1 (by omega) h2 h3 h.B h.b (by omega) (by omega)).mono ?_
  rintro e W' ⟨rfl, A', c', g1, g2, g3, g4, g5, g6⟩
  have gk : KpD w W W' := g5
  exact ⟨rfl, ⟨g1, ⟨A', c', g2, g3, g4⟩, gk.blk h.N (by omega) (by omega), gk.blk h.M (by omega) (by omega), gk.blk h.L (by omega) (by omega), g6, fun x hx => h.b x (nextD_mem hx)⟩, gk⟩

/-- A loop of at most so many rounds, while all is well. -/
def loopD {α : Type} (each : α → List Int → Bool → α × List Int × Bool) : Nat → α → List Int → Bool → α × List Int × Bool
  | 0, a, r, f => (a, r, f)
  | k + 1, a, r, f => if f = true then loopD each k (each a r f).1 (each a r f).2.1 (each a r f).2.2 else (a, r, f)
/-- What many comes to. -/
def manyD {α : Type} (each : α → List Int → Bool → α × List Int × Bool) (a : α) (r : List Int) (f : Bool) : α × List Int × Bool :=
  loopD each (nextD r f).1.toNat a (nextD r f).2.1 ((nextD r f).2.2 && decide (0 ≤ (nextD r f).1) && decide ((nextD r f).1 ≤ 65535))
set_option maxRecDepth 100000 in
set_option maxHeartbeats 16000000 in
theorem many_calls (w : World) (fid : FuncId) (cap : Array Value) {α : Type} (each : α → List Int → Bool → α × List Int × Bool) (Inv : Nat → α → List Int → Bool → World → Prop)
    (hcf : ∀ W, (callFunc fid cap).run Try.prog W = .ok (.enter fid cap) W)
    (hin : ∀ j a r f W, Inv j a r f W → DSt w r f W)
    (hnx : ∀ j a r f W, Inv j a r f W → ∀ r' f' W', DSt w r' f' W' → KpD w W W' → Inv j a r' f' W')
    (heach : ∀ j a r W, j < 65535 → Inv j a r true W → Calls Try.prog fid cap W fun e W' => e = .returned (.tuple #[]) ∧ Inv (j + 1) (each a r true).1 (each a r true).2.1 (each a r true).2.2 W')
    (a : α) (r : List Int) (f : Bool) (W : World) (h : Inv 0 a r f W) :
    Calls Try.prog 37 #[.func (.func fid) #[] cap, .pointer (some ⟨w.heap.size + 3, 0, none⟩), .pointer (some ⟨w.heap.size + 2, 0, none⟩)] W fun e W' => e = .returned (.tuple #[]) ∧ ∃ j, j ≤ 65535 ∧ Inv j (manyD each a r f).1 (manyD each a r f).2.1 (manyD each a r f).2.2 W' := by
  have HI := Lib.hid hin
  have HX := Lib.hid hnx
  have HE := Lib.hid heach
  have H := Lib.hid h
  have HD := Lib.hid (hin _ _ _ _ _ h)
  clear hin hnx heach h
  have n0 := blk_cell HD.out.N 0
  obtain ⟨Z, hZ⟩ : ∃ Z, Z = manyD each a r f := ⟨_, rfl⟩
  rw [← hZ]
  unfold manyD at hZ
  have HZ := Lib.hid hZ
  clear hZ
  go_enter Try.func37, Try.ntmps37
  go_wp2_with fail
  refine (DSt.next HD.out).mono ?_
  rintro e W1 ⟨rfl, hd1, hk1⟩
  have H1 := Lib.hid (HX.out _ _ _ _ _ H.out _ _ _ hd1 hk1)
  have HD1 := Lib.hid hd1
  clear hd1 hk1 n0
  generalize hn : (nextD r f).1 = n at *
  generalize hr1 : (nextD r f).2.1 = r1 at *
  generalize hf1 : (nextD r f).2.2 = f1 at *
  clear hn hr1 hf1
  have f0 := blk_cell HD1.out.F 0
  have ff := blk_frozen HD1.out.F 0
  have HFB := Lib.hid (show ∀ g, DSt w r1 g (W1.setCell ⟨w.heap.size + 2, 0, none⟩ (.bool g)) ∧ Inv 0 a r1 g (W1.setCell ⟨w.heap.size + 2, 0, none⟩ (.bool g)) from fun g => ⟨(HD1.out.fine g).1, HX.out _ _ _ _ _ H1.out _ _ _ (HD1.out.fine g).1 (HD1.out.fine g).2⟩)
  by_cases hg : f1 = true ∧ 0 ≤ n ∧ n ≤ 65535
  · obtain ⟨rfl, hn0, hn1⟩ := hg
    have HZ1 := Lib.hid (show Z = loopD each n.toNat a r1 true by rw [HZ.out, decide_eq_true hn0, decide_eq_true hn1]; rfl)
    obtain ⟨n, rfl⟩ : ∃ m : Nat, n = (m : Int) := ⟨n.toNat, by omega⟩
    rw [Int.toNat_natCast] at HZ1
    have HFT := Lib.hid (HFB.out true)
    go_wp2_with fail
    clear HFB H1 HD1 f0 ff H HD HZ
    go_loopw [17] (fun i wr => ∃ (k : Nat) (a' : α) (r' : List Int) (f' : Bool), k ≤ n ∧ i = .int .i64 k ∧ Hid (Inv k a' r' f' wr) ∧ Hid (Z = loopD each (n - k) a' r' f')) (fun i _ => n - (intOf i).toNat)
    case atStart => exact ⟨0, a, r1, true, by omega, rfl, Lib.hid HFT.out.2, Lib.hid HZ1.out⟩
    case round =>
      obtain ⟨k, a', r', f', hk, rfl, HK, HZK⟩ := hrel
      by_cases hlt : k < n
      · have HDK := Lib.hid (HI.out _ _ _ _ _ HK.out)
        have g0 := blk_cell HDK.out.F 0
        cases f'
        · go_wp2_with fail
          refine bodyPost_ret (results_none rfl _ _ _) rfl ?_
          refine ⟨rfl, k, by omega, ?_⟩
          have hz : Z = (a', r', false) := by
            rw [HZK.out]
            obtain ⟨m, hm⟩ : ∃ m, n - k = m + 1 := ⟨n - k - 1, by omega⟩
            rw [hm]; rfl
          rw [hz]; exact HK.out
        · go_wp2_with fail
          refine (HE.out k a' r' _ (by omega) HK.out).mono ?_
          rintro e W3 ⟨rfl, h3⟩
          have H3 := Lib.hid h3
          have HZ3 := Lib.hid (show Z = loopD each (n - (k + 1)) (each a' r' true).1 (each a' r' true).2.1 (each a' r' true).2.2 by
            rw [HZK.out]
            obtain ⟨m, hm⟩ : ∃ m, n - k = m + 1 := ⟨n - k - 1, by omega⟩
            rw [hm, show n - (k + 1) = m by omega]; rfl)
          clear h3 HK HZK HDK g0
          go_wp2_with fail
          go_roundw
          case rel => exact ⟨k + 1, _, _, _, by omega, by go_num, Lib.hid H3.out, Lib.hid HZ3.out⟩
          case measure => simp [intOf]; omega
      · go_wp2_with fail
        go_end0
        refine ⟨rfl, k, by omega, ?_⟩
        have hz : Z = (a', r', f') := by
          rw [HZK.out, show n - k = 0 by omega]; rfl
        rw [hz]; exact HK.out
  have HF := Lib.hid (HFB.out false)
  have hzf : Z = (a, r1, false) := by
    rw [HZ.out]
    have hq : (f1 && decide (0 ≤ n) && decide (n ≤ 65535)) = false := by
      cases f1
      · rfl
      · by_cases h0 : 0 ≤ n
        · have h1 : ¬ n ≤ 65535 := fun h1 => hg ⟨rfl, h0, h1⟩
          simp [h1]
        · simp [h0]
    rw [hq]
    cases n.toNat <;> rfl
  have HZF := Lib.hid hzf
  have HFC := Lib.hid hg
  clear hzf hg HZ
  cases f1
  · clear HFC
    go_wp2_with fail
    clear HFB H1 HD1 f0 ff H HD
    go_loopw [17] (fun i wr => ∃ (k : Nat), k = 0 ∧ i = .int .i64 k ∧ Hid (Inv 0 a r1 false wr)) (fun i _ => 0)
    case atStart => exact ⟨0, rfl, rfl, Lib.hid HF.out.2⟩
    case round =>
      obtain ⟨k, hk, rfl, HK⟩ := hrel
      subst hk
      have HDK := Lib.hid (HI.out _ _ _ _ _ HK.out)
      have g0 := blk_cell HDK.out.F 0
      by_cases hlt : 0 < n
      · go_wp2_with fail
        refine bodyPost_ret (results_none rfl _ _ _) rfl ?_
        exact ⟨rfl, 0, by omega, by rw [HZF.out]; exact HK.out⟩
      · go_wp2_with fail
        go_end0
        exact ⟨rfl, 0, by omega, by rw [HZF.out]; exact HK.out⟩
  by_cases h0 : 0 ≤ n
  · have h1 : ¬ n ≤ 65535 := fun h1 => HFC.out ⟨rfl, h0, h1⟩
    have e2 : decide (n ≤ 65535) = false := decide_eq_false h1
    clear HFC
    go_wp2_with fail
    clear HFB H1 HD1 f0 ff H HD
    go_loopw [17] (fun i wr => ∃ (k : Nat), k = 0 ∧ i = .int .i64 k ∧ Hid (Inv 0 a r1 false wr)) (fun i _ => 0)
    case atStart => exact ⟨0, rfl, rfl, Lib.hid HF.out.2⟩
    case round =>
      obtain ⟨k, hk, rfl, HK⟩ := hrel
      subst hk
      have HDK := Lib.hid (HI.out _ _ _ _ _ HK.out)
      have g0 := blk_cell HDK.out.F 0
      by_cases hlt : 0 < n
      · go_wp2_with fail
        refine bodyPost_ret (results_none rfl _ _ _) rfl ?_
        exact ⟨rfl, 0, by omega, by rw [HZF.out]; exact HK.out⟩
      · go_wp2_with fail
        go_end0
        exact ⟨rfl, 0, by omega, by rw [HZF.out]; exact HK.out⟩
  · clear HFC
    go_wp2_with fail
    clear HFB H1 HD1 f0 ff H HD
    go_loopw [17] (fun i wr => ∃ (k : Nat), k = 0 ∧ i = .int .i64 k ∧ Hid (Inv 0 a r1 false wr)) (fun i _ => 0)
    case atStart => exact ⟨0, rfl, rfl, Lib.hid HF.out.2⟩
    case round =>
      obtain ⟨k, hk, rfl, HK⟩ := hrel
      subst hk
      have HDK := Lib.hid (HI.out _ _ _ _ _ HK.out)
      have g0 := blk_cell HDK.out.F 0
      by_cases hlt : 0 < n
      · go_wp2_with fail
        refine bodyPost_ret (results_none rfl _ _ _) rfl ?_
        exact ⟨rfl, 0, by omega, by rw [HZF.out]; exact HK.out⟩
      · go_wp2_with fail
        go_end0
        exact ⟨rfl, 0, by omega, by rw [HZF.out]; exact HK.out⟩
end Go.Proofs.Ytehbabkgaecoaaa
