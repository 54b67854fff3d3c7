/- config.Encode. -/
import Derived.Test.YtehbabkgaecoaaaEnN
import Derived.Lib.SlBytesConst
namespace Go.Proofs.Ytehbabkgaecoaaa
set_option linter.unusedVariables false
set_option linter.unusedSimpArgs false
open Go.RowKit Go.Shelf Go.Proofs.YtehbabkgaecoaaaW.PrintWords Go.Proofs.YtehbabkgaecoaaaW.PrintLast

def u32N (n : Int) : Int := IntKind.u32.wrap n
def encN (n : Int) : List Int := [n % 4294967296 / 16777216, n % 4294967296 / 65536 % 256, n % 4294967296 / 256 % 256, n % 4294967296 % 256]
def inN (n : Int) : Bool := decide (-2147483648 ≤ n) && decide (n ≤ 2147483647)
def encS (C : S29) : List Int × Int := if cfgFine C && (cfgNums C).all inN then ([82, 79, 84, 65] ++ (cfgNums C).flatMap encN, 0) else ([], 2)
def kU : Kd Int := Kd.int .u8
theorem infoU : (Try.prog.info? 5).map (fun i => (i.zero, i.size, i.bytes)) = some (some (.int .u8 0), 1, 1) := by kernel_rfl
/-- What Encode has made so far: the literal, or a row of its own. -/
def ES (V : World) (v : Value) (bs : List Int) (W : World) : Prop :=
  (v = .slice (some ⟨V.heap.size, 0, none⟩) 4 4 ∧ bs = [82, 79, 84, 65] ∧ W.heap[V.heap.size]? = some (Obj.cells #[.int .u8 82, .int .u8 79, .int .u8 84, .int .u8 65] 5 (4, 5))) ∨ Kd.R kU 5 W V.heap.size (fun _ => True) v bs
theorem ES.slice {V W : World} {v : Value} {bs : List Int} (h : ES V v bs W) : ∃ A c, v = .slice A bs.length c := by
  rcases h with ⟨rfl, rfl, _⟩ | h
  · exact ⟨_, _, rfl⟩
  · exact Kd.R_slice h
theorem own_lower {w : World} {base base' : Nat} {e : TypeId} {size n : Nat} {v : Value} {xs : List Value} (h : w.ownsRow base e size v n xs) (hb : base' ≤ base) : w.ownsRow base' e size v n xs :=
  ⟨h.1, h.2.imp id (fun ⟨g, cap, cur, e, hg, r⟩ => ⟨g, cap, cur, e, Nat.le_trans hb hg, r⟩)⟩
theorem R_u8s (X : World) (xs : List Int) (base : Nat) (ok : Nat → Prop) (hb : base ≤ X.heap.size) (hok : ok X.heap.size) (hm : xs.length ≤ 9223372036854775807) : Kd.R kU 5 (X.alloc (.cells (xs.map (Value.int .u8)).toArray 5)) base ok (.slice (some ⟨X.heap.size, 0, none⟩) xs.length xs.length) xs := by
  refine ⟨fun k hk => ?_, OwnRow.lit X base (Kd.reps_scalar xs) hb hm⟩
  obtain rfl : X.heap.size = k := by simpa [Value.ownBlock] using hk
  exact hok
theorem es_app {ops : Array Oper} {rest : List Oper} {o : Oper} {a : Act} {Q : Exit → Act → World → Prop} {V W : World} {v : Value} {bs : List Int} (h : ES V v bs W) (hB : Below V.heap.size V W) (b0 b1 b2 b3 : Int) (s x : Operand) (hgd : o.guard = none)
    (ho : o.op = .call { callee := .builtin .append, args := #[s, x], argTypes := #[22, 22] }) (hs : a.eval s = v) (hx : a.eval x = .slice (some ⟨W.heap.size, 0, none⟩) 4 4) (hl : bs.length + 4 ≤ 140737488355328)
    (hK : ∀ A c W', Kd.R kU 5 W' V.heap.size (fun _ => True) (.slice A (bs.length + 4) c) (bs ++ [b0, b1, b2, b3]) → Below V.heap.size V W' → wpList Try.prog ops Q rest (a.put o.dst (.slice A (bs.length + 4) c)) W') :
    wpList Try.prog ops Q (o :: rest) a (W.alloc (.cells #[.int .u8 b0, .int .u8 b1, .int .u8 b2, .int .u8 b3] 5)) := by
  have hr : Kd.R kU 5 (W.alloc (.cells #[.int .u8 b0, .int .u8 b1, .int .u8 b2, .int .u8 b3] 5)) W.heap.size (fun _ => True) (.slice (some ⟨W.heap.size, 0, none⟩) 4 4) [b0, b1, b2, b3] := R_u8s W [b0, b1, b2, b3] _ _ (Nat.le_refl _) trivial (by simp)
  have hc : Kd.C kU (W.alloc (.cells #[.int .u8 b0, .int .u8 b1, .int .u8 b2, .int .u8 b3] 5)) (some ⟨W.heap.size, 0, none⟩) 4 [b0, b1, b2, b3] := by
    obtain ⟨A, c, e, -, hc⟩ := Kd.R_reads hr
    cases e
    exact hc
  rcases h with ⟨rfl, rfl, hL⟩ | h
  · obtain ⟨i0, hi, hzz⟩ := Option.map_eq_some_iff.1 infoU
    simp only [Prod.mk.injEq] at hzz
    obtain ⟨hz0, hz1, hz2⟩ := hzz
    have hL' := blk_alloc hL (Obj.cells #[.int .u8 b0, .int .u8 b1, .int .u8 b2, .int .u8 b3] 5)
    refine wpList_append_grows _ hgd s x 22 ho 5 i0 (.int .u8 0) 1 1 Try.underlying22 hi hz0 hz1 hz2 rfl (by omega) (some ⟨V.heap.size, 0, none⟩) 4 4 [.int .u8 82, .int .u8 79, .int .u8 84, .int .u8 65] hs (by simp) (by simp) (fun b hb j u hu => ?_)
      ⟨W.heap.size, 0, none⟩ 4 4 [.int .u8 b0, .int .u8 b1, .int .u8 b2, .int .u8 b3] hx rfl (by simpa using World.news_of_block (cs := #[.int .u8 b0, .int .u8 b1, .int .u8 b2, .int .u8 b3]) (heap_alloc_new W _)) (by simp [Value.oneCell']) (by omega) (by simp only [maxLen]; omega) (by omega) ?_
    · cases hb
      exact World.news_of_block (cs := #[.int .u8 82, .int .u8 79, .int .u8 84, .int .u8 65]) hL' j u (by simpa using hu)
    · intro v' w' hown hg
      have hown' := own_lower hown (base' := V.heap.size) (by rw [World.size_alloc]; have := hB.size; omega)
      have hR : Kd.R kU 5 w' V.heap.size (fun _ => True) v' [82, 79, 84, 65, b0, b1, b2, b3] := Kd.R_of_own (enc := Value.int .u8) (h1 := fun _ => rfl) (by simpa [encs] using hown') (fun _ _ => trivial)
      obtain ⟨A, c, rfl⟩ := Kd.R_slice hR
      exact hK A c w' hR ((hB.alloc hB.size _).grown hg (by rw [World.size_alloc]; have := hB.size; omega) (fun k e => by cases e))
  · refine Kd.R_append_rows kU (Rr := kU.K (W.alloc (.cells #[.int .u8 b0, .int .u8 b1, .int .u8 b2, .int .u8 b3] 5))) (w0 := V) V.heap.size hgd s x 22 5 (.int .u8 0) 1 ho Try.underlying22 infoU rfl (by decide) (by omega) v bs [b0, b1, b2, b3] _ 4 4 (fun _ => True) (fun _ => False) hs hx (Kd.R_alloc h _) hc (fun x cs hk => hk) (fun _ hk => hk.elim) (fun _ _ => trivial) (hB.alloc hB.size _) (by rw [World.size_alloc]; have := hB.size; omega) (by omega) ?_
    intro v1 W1 hr1 hb1 _ _
    obtain ⟨A, c, hv⟩ := Kd.R_slice hr1
    rw [List.length_append] at hv
    subst hv
    exact hK A c W1 hr1 hb1
theorem cn_pos (C : S29) : 0 < (cfgNums C).length := by rw [cn_len]; omega
theorem enc_len (l : List Int) : (l.flatMap encN).length = 4 * l.length := by
  induction l with
  | nil => rfl
  | cons x l ih => rw [List.flatMap_cons, List.length_append, ih]; simp [encN]; omega
set_option maxRecDepth 100000 in
set_option maxHeartbeats 32000000 in
theorem encode_calls (A1 A8 A9 A10 A11 : Option Addr) (c1 c8 c9 c10 c11 : Nat) (C : S29) (w : World) (h : CfgIn w C A1 A8 A9 A10 A11 c1 c8 c9 c10 c11) (hT : (cfgNums C).length * 8 ≤ 140737488355320) :
    Calls Try.prog 19 #[.agg #[.int .i64 C.f0, .slice A1 C.f1.length c1, .int .i64 C.f2, .int .i64 C.f3, .int .i64 C.f4, .int .i64 C.f5, .int .i64 C.f6, .int .i64 C.f7, .slice A8 C.f8.length c8, .slice A9 C.f9.length c9, .slice A10 C.f10.length c10, .slice A11 C.f11.length c11]] w fun e w' => ∃ v, e = .returned (.tuple #[v, .int .i64 (encS C).2]) ∧ Kd.R kU 5 w' w.heap.size (fun _ => True) v (encS C).1 ∧ Below w.heap.size w w' := by
  have HR := Lib.hid h
  have HT := Lib.hid hT
  clear h hT
  have HB := Lib.hid (show Below w.heap.size w (w.alloc (Obj.cells #[.int .i64 C.f0, .slice A1 C.f1.length c1, .int .i64 C.f2, .int .i64 C.f3, .int .i64 C.f4, .int .i64 C.f5, .int .i64 C.f6, .int .i64 C.f7, .slice A8 C.f8.length c8, .slice A9 C.f9.length c9, .slice A10 C.f10.length c10, .slice A11 C.f11.length c11] 29)) from (Below.refl _ _).alloc (Nat.le_refl _) _)
  go_enter Try.func19, Try.ntmps19
  go_wp2_with fail
  refine (numbers_calls _ _ _ _ _ _ _ _ _ _ C _ (HR.out.below HB.out) (by have := HT.out; omega)).mono ?_
  rintro e W1 ⟨v1, rfl, hr1, hb1⟩
  have HB1 := Lib.hid (below_step HB.out hb1)
  obtain ⟨A, c, rfl, hlc, hC⟩ := Kd.R_reads hr1
  have HC := Lib.hid hC
  clear hr1 hb1 hC HB
  obtain ⟨l, hl⟩ : ∃ l, l = cfgNums C := ⟨_, rfl⟩
  rw [← hl] at HC HT hlc ⊢
  have HLN := Lib.hid hl
  clear hl
  by_cases hf : cfgFine C = true
  case neg =>
    have e1 : cfgFine C = false := by simpa using hf
    have HE := Lib.hid (show encS C = ([], 2) by rw [encS, e1]; rfl)
    rw [e1]
    clear e1 hf
    go_wp2_with fail
    go_ret2
    rw [HE.out]
    exact ⟨_, rfl, Kd.R_nil _ _ _ _ _, HB1.out⟩
  rw [hf]
  have hcv := Lib.run_convert_bytes_const (P := Try.prog) W1 22 5 #[.int .u8 82, .int .u8 79, .int .u8 84, .int .u8 65] 4 4 rfl rfl
  go_wp2_with fail
  have HB2 := Lib.hid (HB1.out.alloc HB1.out.size (Obj.cells #[.int .u8 82, .int .u8 79, .int .u8 84, .int .u8 65] 5 (4, 5)))
  have HC2 := Lib.hid (show Kd.C kI (W1.alloc (Obj.cells #[.int .u8 82, .int .u8 79, .int .u8 84, .int .u8 65] 5 (4, 5))) A l.length l from Kd.C_below HC.out ((Below.refl _ _).alloc (Nat.le_refl _) _))
  clear hcv
  have HBV := Lib.hid (show Below W1.heap.size W1 (W1.alloc (Obj.cells #[.int .u8 82, .int .u8 79, .int .u8 84, .int .u8 65] 5 (4, 5))) from (Below.refl _ _).alloc (Nat.le_refl _) _)
  have HES := Lib.hid (show ES W1 (.slice (some ⟨W1.heap.size, 0, none⟩) 4 4) ([82, 79, 84, 65] ++ (l.take 0).flatMap encN) (W1.alloc (Obj.cells #[.int .u8 82, .int .u8 79, .int .u8 84, .int .u8 65] 5 (4, 5))) from .inl ⟨rfl, by simp, heap_alloc_new _ _⟩)
  go_loopw [6, 21] (fun v0 i wr => ∃ (k : Nat) (v : Value), k ≤ l.length ∧ v = v0 ∧ i = .int .i64 k ∧ Hid ((l.take k).all inN = true) ∧ Hid (ES W1 v ([82, 79, 84, 65] ++ (l.take k).flatMap encN) wr) ∧ Hid (Below W1.heap.size W1 wr)) (fun _ i _ => l.length - (intOf i).toNat)
  case atStart => exact ⟨0, _, by omega, rfl, rfl, Lib.hid (by simp), HES, HBV⟩
  case round =>
    clear HES HBV HC2 HB2
    obtain ⟨k, v, hk, rfl, rfl, HA, HV, HB3⟩ := hrel
    obtain ⟨Av, cv, hv⟩ := HV.out.slice
    have hl63 : l.length * 8 ≤ 140737488355320 := HT.out
    by_cases hlt : k < l.length
    · obtain ⟨ad, n, ea, n0', HN⟩ := at_I (Kd.C_below HC.out HB3.out) k hlt
      subst ea
      have n0 := n0'
      clear n0'
      by_cases hn : -2147483648 ≤ n ∧ n ≤ 2147483647
      · have e2 : decide (n < -2147483648) = false := decide_eq_false (by omega)
        have e3 : decide (2147483647 < n) = false := decide_eq_false (by omega)
        have HLL := Lib.hid (show ([82, 79, 84, 65] ++ (l.take k).flatMap encN).length + 4 ≤ 140737488355328 by rw [List.length_append, enc_len, List.length_take]; simp; omega)
        have HA' := Lib.hid (show (l.take (k + 1)).all inN = true by rw [List.take_add_one, HN.out, List.all_append, HA.out]; simp [inN, hn.1, hn.2])
        obtain ⟨n1, n2⟩ := hn
        generalize hbs : [82, 79, 84, 65] ++ (l.take k).flatMap encN = bs at *
        have HBS := Lib.hid hbs
        clear hbs
        subst hv
        go_wp2_with (first | ((with_reducible refine gate_z (b := .append) (xs := #[.tmp 34, .tmp 46]) rfl ?_); at_builtin; refine es_app HV.out HB3.out _ _ _ _ (.tmp 34) (.tmp 46) rfl rfl rfl rfl HLL.out ?_; intro A5 c5 W5 h5 hb5; have H5 := Lib.hid h5; have HB5 := Lib.hid hb5; clear h5 hb5))
        go_roundw
        case rel => exact ⟨k + 1, _, by omega, rfl, by go_num, HA', Lib.hid (.inr (by rw [List.take_add_one, HN.out, List.flatMap_append, ← List.append_assoc, HBS.out]; simpa [encN] using H5.out)), HB5⟩
        case measure => simp [intOf]; omega
      · have HE := Lib.hid (show encS C = ([], 2) by
          rw [encS, ← HLN.out, hf]
          have : l.all inN = false := by
            rw [List.all_eq_false]; exact ⟨n, List.mem_of_getElem? HN.out, by simp [inN]; omega⟩
          rw [this]; rfl)
        have HBF := Lib.hid (HB1.out.trans (HB3.out.mono HB1.out.size))
        have hn' : n < -2147483648 ∨ (¬ n < -2147483648 ∧ 2147483647 < n) := by omega
        clear hn
        rcases hn' with e2 | ⟨e2, e3⟩
        all_goals
          go_wp2
          go_ret2
          rw [HE.out]
          exact ⟨_, rfl, Kd.R_nil _ _ _ _ _, HBF.out⟩
    · have hfull : l.take k = l := List.take_of_length_le (by omega)
      rw [hfull] at HV HA
      have HE := Lib.hid (show encS C = ([82, 79, 84, 65] ++ l.flatMap encN, 0) by rw [encS, ← HLN.out, hf, HA.out]; rfl)
      have HF := Lib.hid (show Kd.R kU 5 wr w.heap.size (fun _ => True) v ([82, 79, 84, 65] ++ l.flatMap encN) by
        rcases HV.out with ⟨_, h0, _⟩ | h
        · have := congrArg List.length h0
          rw [List.length_append, enc_len, HLN.out] at this
          have := cn_pos C
          simp at *; omega
        · exact Kd.R_lower h HB1.out.size)
      have HBF := Lib.hid (HB1.out.trans (HB3.out.mono HB1.out.size))
      clear hfull HV HA HLN hv
      go_wp2
      go_ret2
      rw [HE.out]
      exact ⟨_, rfl, HF.out, HBF.out⟩
end Go.Proofs.Ytehbabkgaecoaaa
