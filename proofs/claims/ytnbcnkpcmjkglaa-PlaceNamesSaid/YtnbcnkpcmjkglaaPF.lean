/- The law PlaceFree. -/
import Derived.Test.YtnbcnkpcmjkglaaPM
namespace Go.Proofs.Ytnbcnkpcmjkglaa
open Go.RowKit Go.Proofs.Ytnbcnkpcmjkglaa.Px Go.Proofs.Ytnbcnkpcmjkglaa.Ql Go.Proofs.Ytnbcnkpcmjkglaa.Qm Go.Proofs.YtnbcnkpcmjkglaaW.PrintWords
theorem stepF_false (p : Int) : ∀ F : List (Int × Int), stepF false p F = F
  | [] => rfl
  | [_] => rfl
  | s :: t :: F => by rw [stepF, stepF_false p (t :: F)]
theorem stepF_snoc (p : Int) (s : Int × Int) : ∀ F : List (Int × Int), stepF true p (F ++ [s]) = if s.2 = p then F ++ [(s.1, p + 1)] else F ++ [s, (p, p + 1)]
  | [] => by
    simp only [List.nil_append]
    rw [stepF]
    simp
  | [a] => by
    rw [List.singleton_append, stepF, stepF]
    simp only [if_true]
    split <;> simp
  | a :: b :: F => by
    rw [List.cons_append, List.cons_append, stepF, ← List.cons_append, stepF_snoc p s (b :: F)]
    split <;> simp
/-- What has been gathered, up to a place. -/
def gath (l : List S30) : Nat → List (Int × Int)
  | 0 => []
  | k + 1 => stepF (!inB l (k : Int)) (k : Int) (gath l k)
theorem stepF_len (b : Bool) (p : Int) : ∀ F : List (Int × Int), (stepF b p F).length ≤ F.length + 1
  | [] => by unfold stepF; split <;> simp
  | [s] => by unfold stepF; split <;> (try split) <;> simp
  | s :: t :: F => by
    rw [stepF]
    have := stepF_len b p (t :: F)
    simp at *; omega
theorem gath_len (l : List S30) : ∀ k, (gath l k).length ≤ k
  | 0 => by simp [gath]
  | k + 1 => by
    have := stepF_len (!inB l (k : Int)) (k : Int) (gath l k)
    have := gath_len l k
    rw [gath]; omega
theorem gath_runs (l : List S30) : ∀ k : Nat, Runs (Un l) (k : Int) 0 (gath l k)
  | 0 => fun p h1 h2 => by simp at h2; omega
  | k + 1 => by
    have := stepF_runs (P := Un l) (b := !inB l (k : Int)) (at_ := (k : Int)) (by
      show (!inB l (k : Int)) = true ↔ ¬ InS (l.map toP) k
      rw [← inB_iff]; simp) (gath l k) 0 (by omega) (gath_runs l k)
    rw [gath]
    exact this
theorem rd_last (F : List S30) (s : S30) : rd_T30 (F ++ [s]) (((F ++ [s]).length : Int) - 1) = s := by
  have := rd_app F s []
  rw [show (((F ++ [s]).length : Int) - 1) = (F.length : Int) by simp]
  exact this
theorem set_last (F : List S30) (s v : S30) : (F ++ [s]).set ((((F ++ [s]).length : Int) - 1).toNat) v = F ++ [v] := by
  rw [show ((((F ++ [s]).length : Int) - 1).toNat) = F.length by simp]
  simp
theorem free_loop (l : List S30) (hl : l.length ≤ 100) (limit : Nat) (hlim : limit ≤ 300) : ∀ (d at_ k : Nat), d + at_ = limit → 2 * d + 200 ≤ k → rotaref16_Free.l0 k l limit ((gath l at_).map ofP) true at_ = some ((gath l limit).map ofP)
  | 0, at_, k, hd, hk => by
    obtain ⟨k, rfl⟩ : ∃ j, k = j + 2 := ⟨k - 2, by omega⟩
    rw [rotaref16_Free.l0, if_neg (by omega), rotaref16_Free.j1, if_neg (by simp), show at_ = limit by omega]
  | d + 1, at_, k, hd, hk => by
    obtain ⟨k, rfl⟩ : ∃ j, k = j + 2 := ⟨k - 2, by omega⟩
    have ih := free_loop l hl limit hlim d (at_ + 1) k (by omega) (by omega)
    have hg := gath_len l at_
    rw [rotaref16_Free.l0, if_pos (by omega), rotaref16_Free.j1, if_pos rfl, in_f k l at_ (by omega) (by omega), Option.bind_some, wrap_in (x := (at_ : Int) + 1) (by omega) (by omega), show (at_ : Int) + 1 = ((at_ + 1 : Nat) : Int) by omega]
    cases hb : inB l (at_ : Int) with
    | true =>
      rw [if_pos rfl]
      have : gath l (at_ + 1) = gath l at_ := by rw [gath, hb]; exact stepF_false _ _
      rw [this] at ih
      exact ih
    | false =>
      rw [if_neg (by simp)]
      have hs : gath l (at_ + 1) = stepF true (at_ : Int) (gath l at_) := by rw [gath, hb]; rfl
      rw [hs] at ih
      rcases List.eq_nil_or_concat (gath l at_) with h0 | ⟨F, s, h0⟩
      · rw [h0] at ih ⊢
        simp only [List.map_nil]
        rw [if_neg (by simp), if_pos (by simp)]
        exact ih
      · rw [h0] at ih ⊢ hg
        simp only [List.concat_eq_append] at ih hg ⊢
        rw [stepF_snoc] at ih
        simp only [List.map_append, List.map_cons, List.map_nil] at ih hg ⊢
        have hlen : ((F.map ofP ++ [ofP s]).length : Int) = F.length + 1 := by simp
        simp only [List.length_append, List.length_singleton] at hg
        rw [if_pos (by omega), wrap_in (x := ((F.map ofP ++ [ofP s]).length : Int) - 1) (by omega) (by omega), if_pos (by omega), if_pos (by omega), rd_last, set_last]
        by_cases he : s.2 = (at_ : Int)
        · rw [if_pos (show (ofP s).f1 = _ from he)]
          rw [if_pos he] at ih
          simpa [ofP] using ih
        · rw [if_neg (show ¬ (ofP s).f1 = _ from he), if_pos (by simp; omega)]
          rw [if_neg he] at ih
          simpa [ofP] using ih
theorem refFree_f (l : List S30) (limit : Int) (hl : l.length ≤ 100) (hlim : ¬ (300 < limit ∧ limit ≤ 1048576)) (k : Nat) (hk : 1000 ≤ k) : rotaref16_Free.f k l limit = some (freeR l limit) := by
  unfold rotaref16_Free.f freeR
  rw [refMay_f, Option.bind_some]
  cases hm : mayB 0 1 limit with
  | false =>
    obtain ⟨k, rfl⟩ : ∃ j, k = j + 2 := ⟨k - 2, by omega⟩
    rw [rotaref16_Free.l0]
    split <;> rw [rotaref16_Free.j1, if_neg (by simp)] <;> simp
  | true =>
    have h := mayB_iff.1 hm
    obtain ⟨n, rfl⟩ : ∃ n : Nat, limit = (n : Int) := ⟨limit.toNat, by omega⟩
    have := free_loop l hl n (by omega) n 0 k (by omega) (by omega)
    have hu : gath l n = freeL l n := Runs.uniq (gath_runs l n) (freeL_runs l n)
    rw [hu] at this
    rw [if_pos rfl]
    exact this
theorem spans_loop : ∀ (suf pre : List S30) (k : Nat), suf.length < k → pre.length + suf.length ≤ 1000 → rotaref16_Spans.l0 k (pre ++ suf) (pre ++ suf) pre.length = some true
  | [], pre, k, hk, _ => by
    obtain ⟨k, rfl⟩ : ∃ j, k = j + 1 := ⟨k - 1, by omega⟩
    rw [rotaref16_Spans.l0, if_neg (by simp)]
  | s :: suf, pre, k, hk, hn => by
    obtain ⟨k, rfl⟩ : ∃ j, k = j + 1 := ⟨k - 1, by simp at hk; omega⟩
    simp only [List.length_cons] at hk hn
    have ih := spans_loop suf (pre ++ [s]) k (by omega) (by simp; omega)
    rw [← app_one, ← len_one] at ih
    rw [rotaref16_Spans.l0, if_pos (by simp; omega), if_pos (by omega), if_pos (by simp; omega), rd_app, wrap_in (x := (pre.length : Int) + 1) (by omega) (by omega), ih]
    simp
theorem spans_f (k : Nat) (l : List S30) (hk : l.length < k) (hl : l.length ≤ 1000) : rotaref16_Spans.f k l l = some true := by
  unfold rotaref16_Spans.f
  rw [if_pos rfl]
  exact spans_loop l [] k hk (by simpa using hl)
theorem law_loop (l : List S30) (limit : Int) (hl : l.length ≤ 50) (b : List S30) : ∀ (suf pre : List S30) (m : Int) (k : Nat), b = pre ++ suf → suf.length + 200 < k → b.length ≤ 60 → (∀ s ∈ suf, Bd s) → mostOf m suf = mostOf 0 (freeR l limit) → rotalaw16_PlaceFree.l0 k l limit b b m pre.length = some true
  | [], pre, m, k, hb, hk, hn, _, hm => by
    obtain ⟨k, rfl⟩ : ∃ j, k = j + 1 := ⟨k - 1, by omega⟩
    rw [rotalaw16_PlaceFree.l0, if_neg (by rw [hb]; simp), spans_f k b (by omega) (by omega), Option.bind_some, if_pos rfl, most_f k l limit (by omega) (by omega), Option.bind_some, ← hm]
    simp [mostOf]
  | s :: suf, pre, m, k, hb, hk, hn, hB, hm => by
    obtain ⟨k, rfl⟩ : ∃ j, k = j + 1 := ⟨k - 1, by simp at hk; omega⟩
    simp only [List.length_cons] at hk
    have hlb : b.length = pre.length + (suf.length + 1) := by rw [hb]; simp
    have ih := law_loop l limit hl b suf (pre ++ [s]) (mx m (s.f1 - s.f0)) k (by rw [hb, app_one]) (by omega) hn (fun t ht => hB t (List.mem_cons_of_mem _ ht)) hm
    rw [← len_one] at ih
    obtain ⟨b0, b1, b2⟩ := hB s (by simp)
    have hrd : rd_T30 b (pre.length : Int) = s := by rw [hb]; exact rd_app pre s suf
    rw [rotalaw16_PlaceFree.l0, if_pos (by omega), if_pos (by omega), hrd, wrap_in (x := s.f1 - s.f0) (by omega) (by omega), wrap_in (x := (pre.length : Int) + 1) (by omega) (by omega)]
    exact ih
theorem placeFree_plain (l : List S30) (limit : Int) : rotalaw16_PlaceFree.f 2000 l limit = some true := by
  unfold rotalaw16_PlaceFree.f
  rw [great_f, Option.bind_some]
  cases hG : (decide (50 < l.length) || (decide (50 < ([] : List Int).length) || (decide (300 < limit) && decide (limit ≤ 1048576))))
  case true => rfl
  simp only [Bool.or_eq_false_iff, Bool.and_eq_false_iff, decide_eq_false_iff_not] at hG
  obtain ⟨hl, -, hlim⟩ := hG
  rw [if_neg (by simp), free_f _ _ _ (by omega), Option.bind_some, refFree_f l limit (by omega) (by omega) _ (by omega), Option.bind_some]
  have h1 := freeR_len l limit
  exact law_loop l limit (by omega) (freeR l limit) (freeR l limit) [] 0 2000 rfl (by omega) (by omega) (freeR_bd l limit) rfl
theorem placeFree_walk (w : World) (A0 : Option Addr) (c0 : Nat) (l0 : List S30) (hr0 : Kd.C k30 w A0 l0.length l0) (hc0 : l0.length ≤ c0) (_hw0 : ∀ x ∈ l0, (Lit.int .i64 x.f0).wf = true ∧ (Lit.int .i64 x.f1).wf = true)
    (a1 : Int) (_w1 : (Lit.int .i64 a1).wf = true) :
    Calls Try.prog 4 #[.slice A0 l0.length c0, .int .i64 a1] w fun e w' => e = .returned (.bool true) ∧ Below w.heap.size w w' :=
  rotalaw16_PlaceFree.calls 2000 A0 c0 l0 a1 true w hr0 hc0 (placeFree_plain l0 a1)
end Go.Proofs.Ytnbcnkpcmjkglaa
