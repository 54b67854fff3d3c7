/- rotaref02's writer: num, lead, list. -/
import Derived.Test.YtehbabkgaecoaaaWA
import Derived.Test.YtehbabkgaecoaaaTW
namespace Go.Proofs.Ytehbabkgaecoaaa
set_option linter.unusedVariables false
set_option linter.unusedSimpArgs false
open Go.RowKit Go.Shelf Go.Proofs.YtehbabkgaecoaaaW.PrintWords Go.Proofs.YtehbabkgaecoaaaW.PrintLast

theorem region_fl {P : Program} {ops : Array Oper} {Q : Exit → Act → World → Prop} {id N : Nat} {σ : Type} {a : Act} {w : World} {S : World → Prop} {ds : List Nat} (vals : σ → List (Tmp × Value)) (R : σ → World → Prop) (lst : Array Bool) (hS : S w.drew) (hm : P.follows .mixedOrders = true) (hN : ops.size = N) (hl : Array.replicate N false = lst)
    (h1 : wpAnyLast P .any ops (fun e a' w' => e = .normal ∧ ∃ s, a' = putAll a (vals s) ∧ R s w') S ds N lst a w.drew)
    (h2 : ∀ s w', R s w' → Q .normal (putAll a (vals s)) w') : (Code.region id ops true).wp P Q a w := by
  refine wp_mono (Q := fun e a' w' => e = .normal ∧ ∃ s, a' = putAll a (vals s) ∧ R s w') (start_ lst hm hN hl hS (fun _ => h1)) ?_
  rintro e a' w' ⟨rfl, s, rfl, hr⟩
  exact h2 s w' hr
/-- Some cells hold what they held. -/
structure Ko (F : List (Addr × Value)) (W : World) : Prop where
  all : ∀ x ∈ F, W.cell? x.1 = some x.2
theorem Ko.cell {F : List (Addr × Value)} {W : World} (h : Ko F W) {p : Addr} {v : Value} (hm : (p, v) ∈ F) : W.cell? p = some v := h.all _ hm
theorem ES.below {V W W' : World} {v : Value} {bs : List Int} (h : ES V v bs W) (hb : Below W.heap.size W W') : ES V v bs W' := by
  rcases h with ⟨h1, h2, h3⟩ | h
  · exact .inl ⟨h1, h2, blk_keep hb h3⟩
  · exact .inr (Kd.R_mono (Kd.R_step (Kd.R_bound h) (fun k _ hk => hb.block k hk)) (fun _ _ => trivial))
theorem ES.set {V W : World} {v : Value} {bs : List Int} (h : ES V v bs W) {O : Nat} {cs : Array Value} (hb : W.heap[O]? = some (.cells cs 77 (0, 0))) (hO : V.heap.size < O) (j : Nat) (u : Value) : ES V v bs (W.setCell ⟨O, j, none⟩ u) := by
  rcases h with ⟨h1, h2, h3⟩ | h
  · exact .inl ⟨h1, h2, (Below.heap_setCell W ⟨O, j, none⟩ u V.heap.size (by show V.heap.size ≠ O; omega)).trans h3⟩
  · exact .inr (Kd.R_set h hb (by decide) j u)
/-- The writer's own box, and its bytes. -/
structure OSt (V : World) (O : Nat) (v : Value) (bs : List Int) (f : Bool) (W : World) : Prop where
  box : W.heap[O]? = some (Obj.cells #[v, .bool f] 77 (0, 0))
  row : ES V v bs W
  bel : Below V.heap.size V W
  hO : V.heap.size < O
theorem OSt.below {V : World} {O : Nat} {v : Value} {bs : List Int} {f : Bool} {W W' : World} (h : OSt V O v bs f W) (hb : Below W.heap.size W W') : OSt V O v bs f W' :=
  ⟨blk_keep hb h.box, h.row.below hb, h.bel.trans (hb.mono h.bel.size), h.hO⟩
theorem OSt.fine {V : World} {O : Nat} {v : Value} {bs : List Int} {f : Bool} {W : World} (h : OSt V O v bs f W) (g : Bool) : OSt V O v bs g (W.setCell ⟨O, 1, none⟩ (.bool g)) :=
  ⟨by have := blk_set h.box 1 (.bool g); exact this, h.row.set h.box h.hO 1 _, h.bel.setCell (p := ⟨O, 1, none⟩) (Nat.le_of_lt h.hO) _, h.hO⟩
/-- A row of numbers that is read: the configuration's, or one of this call's. -/
def RowX (V W : World) (A : Option Addr) (xs : List Int) : Prop := Kd.C kI V A xs.length xs ∨ ∃ b, A = some ⟨b, 0, none⟩ ∧ W.heap[b]? = some (.cells (xs.map (Value.int .i64)).toArray 3 (0, 0))
theorem RowX.C {V W : World} {A : Option Addr} {xs : List Int} (h : RowX V W A xs) (hB : Below V.heap.size V W) (hl : xs.length ≤ 9223372036854775807) : Kd.C kI W A xs.length xs := by
  rcases h with h | ⟨b, rfl, h⟩
  · exact Kd.C_below h hB
  · exact ints_rw xs h hl
theorem RowX.keep {V W W' : World} {A : Option Addr} {xs : List Int} {O : Nat} {cs : Array Value} (h : RowX V W A xs) (hO : W.heap[O]? = some (.cells cs 77 (0, 0))) (hf : FrO (some O) W W') : RowX V W' A xs := by
  rcases h with h | ⟨b, rfl, h⟩
  · exact .inl h
  · exact .inr ⟨b, rfl, hf.2 b _ _ h (by decide) (fun e => blk_ne h hO (by decide) (Option.some.inj e))⟩
theorem FrO.set {O : Nat} {W W' : World} (h : FrO (some O) W W') (j : Nat) (u : Value) : FrO (some O) W (W'.setCell ⟨O, j, none⟩ u) :=
  ⟨by rw [World.size_setCell]; exact h.1, fun g c t hb ht ho => by rw [Below.heap_setCell W' ⟨O, j, none⟩ u g (fun e => ho (by rw [e]))]; exact h.2 g c t hb ht ho⟩
theorem RowX.cell {V W : World} {a : Addr} {xs : List Int} (h : RowX V W (some a) xs) (hB : Below V.heap.size V W) (hl : xs.length ≤ 9223372036854775807) {k : Nat} {n : Int} (hn : xs[k]? = some n) : W.cell? (a.add k) = some (.int .i64 n) := by
  obtain ⟨a', n', e, h0, h1⟩ := at_I (h.C hB hl) k (List.getElem?_eq_some_iff.1 hn).1
  injection e with e
  subst e
  have := h1.out
  rw [hn] at this
  injection this with this
  subst this
  exact h0
theorem OSt.drew {V : World} {O : Nat} {v : Value} {bs : List Int} {f : Bool} {W : World} (h : OSt V O v bs f W) : OSt V O v bs f W.drew := ⟨h.box, h.row, h.bel.drew, h.hO⟩
def putsN (xs : List Int) : List Int := xs.flatMap putN
theorem putN_len (n : Int) : (putN n).length ≤ 4 := by unfold putN; split <;> simp [encN]
theorem putsN_len (xs : List Int) : (putsN xs).length ≤ 4 * xs.length := by
  unfold putsN
  induction xs with
  | nil => simp
  | cons x xs ih => rw [List.flatMap_cons, List.length_append, List.length_cons]; have := putN_len x; omega
set_option maxRecDepth 100000 in
set_option maxHeartbeats 32000000 in
theorem onum_calls {V W : World} {O : Nat} {v : Value} {bs : List Int} {f : Bool} (xs : List Int) (A : Option Addr) (c : Nat) (h : OSt V O v bs f W) (hx : RowX V W A xs) (hl : bs.length + 4 * xs.length + 4 ≤ 140737488355328) :
    Calls Try.prog 45 #[.pointer (some ⟨O, 0, none⟩), .slice A xs.length c] W fun e W' => e = .returned (.tuple #[]) ∧ ∃ v', OSt V O v' (bs ++ putsN xs) (f && xs.all inN) W' ∧ FrO (some O) W W' := by
  have HS0 := Lib.hid h
  have HX0 := Lib.hid hx
  have HL := Lib.hid hl
  clear h hx hl
  have hxl : xs.length ≤ 9223372036854775807 := by have := HL.out; omega
  go_enter Try.func45, Try.ntmps45
  go_wp2_with fail
  go_loopw [4] (fun i wr => ∃ (k : Nat) (v1 : Value), k ≤ xs.length ∧ i = .int .i64 k ∧ Hid (OSt V O v1 (bs ++ putsN (xs.take k)) (f && (xs.take k).all inN) wr) ∧ Hid (FrO (some O) W wr)) (fun i _ => xs.length - (intOf i).toNat)
  case atStart => exact ⟨0, v, by omega, rfl, Lib.hid (by simpa [putsN] using HS0.out), Lib.hid (FrO.refl _ _)⟩
  case round =>
    obtain ⟨k, v1, hk, rfl, HS, HF⟩ := hrel
    by_cases hlt : k < xs.length
    · have HX := Lib.hid (HX0.out.keep HS0.out.box HF.out)
      obtain ⟨ad, n, ea, n0, HN⟩ := at_I (HX.out.C HS.out.bel hxl) k hlt
      subst ea
      have hle : (bs ++ putsN (xs.take k)).length + 4 ≤ 140737488355328 := by
        rw [List.length_append]
        have := putsN_len (xs.take k)
        have h1 := HL.out
        rw [List.length_take] at this
        omega
      have HLE := Lib.hid hle
      have HBS := Lib.hid (show bs ++ putsN (xs.take (k + 1)) = bs ++ putsN (xs.take k) ++ putN n by
        unfold putsN
        rw [List.take_add_one, HN.out, List.flatMap_append, List.append_assoc]
        simp)
      have HFN := Lib.hid (show (f && (xs.take (k + 1)).all inN) = (f && (xs.take k).all inN && inN n) by
        rw [List.take_add_one, HN.out, List.all_append, Bool.and_assoc]
        simp)
      clear hle
      generalize bs ++ putsN (xs.take k) = b1 at *
      generalize (f && (xs.take k).all inN) = f1 at *
      go_wp2_with fail
      clear n0
      refine region_fl (S := Ko [(⟨O, 0, none⟩, v1), (ad.add k, .int .i64 n)]) (N := 14) (σ := Value) (ds := []) (fun v' => [(14, .pointer (some ⟨O, 0, none⟩)), (15, .pointer (some ⟨O, 0, none⟩)), (16, .pointer (some ⟨O, 0, none⟩)), (17, v1), (18, .slice (some ad) xs.length c), (19, .int .i64 k), (20, .pointer (some (ad.add k))), (21, .int .i64 n), (22, .tuple #[v', .bool (inN n)]), (13, .tuple #[v', .bool (inN n)]), (23, v'), (24, .bool (inN n)), (5, v'), (6, .bool (inN n))]) (fun v' W' => ES V v' (b1 ++ putN n) W' ∧ Below V.heap.size V W' ∧ FrO (some O) W W' ∧ W'.heap[O]? = some (Obj.cells #[v1, .bool f1] 77 (0, 0))) #[false, false, false, false, false, false, false, false, false, false, false, false, false, false] ?_ (by kernel_rfl) rfl rfl ?_ ?_
      · exact ⟨fun x hx => by
          rcases List.mem_cons.1 hx with rfl | hx
          · exact blk_cell HS.out.box 0
          · rw [List.mem_singleton.1 hx]; exact HX.out.cell HS.out.bel hxl HN.out⟩
      · have hS : Ko [(⟨O, 0, none⟩, v1), (ad.add k, .int .i64 n)] wr.drew := ⟨fun x hx => by
          rcases List.mem_cons.1 hx with rfl | hx
          · exact blk_cell HS.out.box 0
          · rw [List.mem_singleton.1 hx]; exact HX.out.cell HS.out.bel hxl HN.out⟩
        have HSd := Lib.hid HS.out.drew
        have HFd := Lib.hid (show FrO (some O) W wr.drew from HF.out)
        have HXd := Lib.hid (show RowX V wr.drew (some ad) xs from HX.out)
        have m0 : ((⟨O, 0, none⟩ : Addr), v1) ∈ [((⟨O, 0, none⟩ : Addr), v1), (ad.add k, .int .i64 n)] := by simp
        have m1 : (ad.add k, Value.int .i64 n) ∈ [((⟨O, 0, none⟩ : Addr), v1), (ad.add k, .int .i64 n)] := by simp
        generalize wr.drew = Wd at hS HSd HFd HXd ⊢
        refine pure_ (i := 0) (N := some 14) (v := ?_) (a' := ?_) #[true, false, false, false, false, false, false, false, false, false, false, false, false, false] rfl rfl (by kernel_rfl) (fun _ _ _ h => by cases h.1) (Or.inl ⟨by rfl, ?_⟩) ?_ ?_
        rotate_left
        · intro w'
          go_simp
          with_reducible rfl
        rotate_left
        · simp only [Act.put, List.setIfInBounds_toArray, List.set_cons_zero, List.set_cons_succ]
          rfl
        refine pure_ (i := 1) (N := some 15) (v := ?_) (a' := ?_) #[true, true, false, false, false, false, false, false, false, false, false, false, false, false] rfl rfl (by kernel_rfl) (fun _ _ _ h => by cases h.1) (Or.inl ⟨by rfl, ?_⟩) ?_ ?_
        rotate_left
        · intro w'
          go_simp
          with_reducible rfl
        rotate_left
        · simp only [Act.put, List.setIfInBounds_toArray, List.set_cons_zero, List.set_cons_succ]
          rfl
        refine pure_ (i := 2) (N := some 16) (v := ?_) (a' := ?_) #[true, true, true, false, false, false, false, false, false, false, false, false, false, false] rfl rfl (by kernel_rfl) (fun _ _ _ h => by cases h.1) (Or.inl ⟨by rfl, ?_⟩) ?_ ?_
        rotate_left
        · intro w'
          go_simp
          with_reducible rfl
        rotate_left
        · simp only [Act.put, List.setIfInBounds_toArray, List.set_cons_zero, List.set_cons_succ]
          rfl
        refine take_ (i := 3) (N := some 17) (v := ?_) (a' := ?_) #[true, true, true, true, false, false, false, false, false, false, false, false, false, false] rfl rfl (by kernel_rfl) (fun _ _ _ h => by cases h.1) (Or.inl ⟨by rfl, ?_⟩) hS ?_ ?_
        rotate_left
        · intro w' hb
          have s0 := hb.cell m0
          go_simp
          with_reducible rfl
        rotate_left
        · simp only [Act.put, List.setIfInBounds_toArray, List.set_cons_zero, List.set_cons_succ]
          rfl
        refine pure_ (i := 4) (N := some 18) (v := ?_) (a' := ?_) #[true, true, true, true, true, false, false, false, false, false, false, false, false, false] rfl rfl (by kernel_rfl) (fun _ _ _ h => by cases h.1) (Or.inl ⟨by rfl, ?_⟩) ?_ ?_
        rotate_left
        · intro w'
          go_simp
          with_reducible rfl
        rotate_left
        · simp only [Act.put, List.setIfInBounds_toArray, List.set_cons_zero, List.set_cons_succ]
          rfl
        refine pure_ (i := 5) (N := some 19) (v := ?_) (a' := ?_) #[true, true, true, true, true, true, false, false, false, false, false, false, false, false] rfl rfl (by kernel_rfl) (fun _ _ _ h => by cases h.1) (Or.inl ⟨by rfl, ?_⟩) ?_ ?_
        rotate_left
        · intro w'
          go_simp
          with_reducible rfl
        rotate_left
        · simp only [Act.put, List.setIfInBounds_toArray, List.set_cons_zero, List.set_cons_succ]
          rfl
        refine pure_ (i := 6) (N := some 20) (v := ?_) (a' := ?_) #[true, true, true, true, true, true, true, false, false, false, false, false, false, false] rfl rfl (by kernel_rfl) (fun _ _ _ h => by cases h.1) (Or.inl ⟨by rfl, ?_⟩) ?_ ?_
        rotate_left
        · intro w'
          go_simp
          with_reducible rfl
        rotate_left
        · simp only [Act.put, List.setIfInBounds_toArray, List.set_cons_zero, List.set_cons_succ]
          rfl
        refine take_ (i := 7) (N := some 21) (v := ?_) (a' := ?_) #[true, true, true, true, true, true, true, true, false, false, false, false, false, false] rfl rfl (by kernel_rfl) (fun _ _ _ h => by cases h.1) (Or.inl ⟨by rfl, ?_⟩) hS ?_ ?_
        rotate_left
        · intro w' hb
          have s0 := hb.cell m1
          go_simp
          with_reducible rfl
        rotate_left
        · simp only [Act.put, List.setIfInBounds_toArray, List.set_cons_zero, List.set_cons_succ]
          rfl
        refine one_ (i := 8) (N := some 22) #[true, true, true, true, true, true, true, true, true, false, false, false, false, false] rfl rfl (by kernel_rfl) (by simp) (fun K hK => ?_)
        go_simp
        refine (put_calls n HSd.out.row HSd.out.bel HLE.out).mono ?_
        rintro e u ⟨v', rfl, hr', hb', hf'⟩
        have hbx := hf'.2 O _ _ HSd.out.box (by decide) (by simp)
        have hS' : Ko [(⟨O, 0, none⟩, v1), (ad.add k, .int .i64 n)] u := ⟨fun x hx => by
          rcases List.mem_cons.1 hx with rfl | hx
          · exact blk_cell hbx 0
          · rw [List.mem_singleton.1 hx]; exact (HXd.out.keep HSd.out.box hf'.weak).cell hb' hxl HN.out⟩
        refine hK.out _ _ hS' (fun _ => ?_)
        clear hK K
        refine pure_ (i := 9) (N := some 13) (v := ?_) (a' := ?_) #[true, true, true, true, true, true, true, true, true, true, false, false, false, false] rfl rfl (by kernel_rfl) (fun _ _ _ h => by cases h.1) (Or.inl ⟨by rfl, ?_⟩) ?_ ?_
        rotate_left
        · intro w'
          go_simp
          with_reducible rfl
        rotate_left
        · simp only [Act.put, List.setIfInBounds_toArray, List.set_cons_zero, List.set_cons_succ]
          rfl
        refine pure_ (i := 10) (N := some 23) (v := ?_) (a' := ?_) #[true, true, true, true, true, true, true, true, true, true, true, false, false, false] rfl rfl (by kernel_rfl) (fun _ _ _ h => by cases h.1) (Or.inl ⟨by rfl, ?_⟩) ?_ ?_
        rotate_left
        · intro w'
          go_simp
          with_reducible rfl
        rotate_left
        · simp only [Act.put, List.setIfInBounds_toArray, List.set_cons_zero, List.set_cons_succ]
          rfl
        refine pure_ (i := 11) (N := some 24) (v := ?_) (a' := ?_) #[true, true, true, true, true, true, true, true, true, true, true, true, false, false] rfl rfl (by kernel_rfl) (fun _ _ _ h => by cases h.1) (Or.inl ⟨by rfl, ?_⟩) ?_ ?_
        rotate_left
        · intro w'
          go_simp
          with_reducible rfl
        rotate_left
        · simp only [Act.put, List.setIfInBounds_toArray, List.set_cons_zero, List.set_cons_succ]
          rfl
        refine pure_ (i := 12) (N := some 5) (v := ?_) (a' := ?_) #[true, true, true, true, true, true, true, true, true, true, true, true, true, false] rfl rfl (by kernel_rfl) (fun _ _ _ h => by cases h.1) (Or.inl ⟨by rfl, ?_⟩) ?_ ?_
        rotate_left
        · intro w'
          go_simp
          with_reducible rfl
        rotate_left
        · simp only [Act.put, List.setIfInBounds_toArray, List.set_cons_zero, List.set_cons_succ]
          rfl
        refine pure_ (i := 13) (N := some 6) (v := ?_) (a' := ?_) #[true, true, true, true, true, true, true, true, true, true, true, true, true, true] rfl rfl (by kernel_rfl) (fun _ _ _ h => by cases h.1) (Or.inl ⟨by rfl, ?_⟩) ?_ ?_
        rotate_left
        · intro w'
          go_simp
          with_reducible rfl
        rotate_left
        · simp only [Act.put, List.setIfInBounds_toArray, List.set_cons_zero, List.set_cons_succ]
          rfl
        refine done_ (by kernel_rfl) ?_
        exact ⟨rfl, v', by simp only [putAll, Act.put, List.setIfInBounds_toArray, List.set_cons_zero, List.set_cons_succ], hr', hb', HFd.out.trans hf'.weak, hbx⟩
      · rintro v' U ⟨hr', hb', hf', hbx⟩
        obtain ⟨Av', cv', hv'⟩ := hr'.slice
        rw [List.length_append] at hv'
        subst hv'
        simp only [putAll, Act.put, List.setIfInBounds_toArray, List.set_cons_zero, List.set_cons_succ]
        have HR' := Lib.hid hr'
        have HB' := Lib.hid hb'
        have HF' := Lib.hid hf'
        have HBX := Lib.hid hbx
        have hOV := HS.out.hO
        have c0 := blk_cell hbx 0
        have c1 := blk_cell hbx 1
        have k0 := blk_frozen hbx 0
        have k1 := blk_frozen hbx 1
        clear hr' hb' hf' hbx HS HX HF HLE
        obtain ⟨q, hq⟩ : ∃ q, q = inN n := ⟨_, rfl⟩
        rw [← hq] at HFN ⊢
        clear hq
        cases f1
        all_goals
          go_wp2_with fail
          go_roundw
          case rel => exact ⟨k + 1, _, by omega, by go_num, Lib.hid ⟨by rw [HFN.out]; exact blk_set (blk_set HBX.out 0 _) 1 _, by rw [HBS.out]; exact (HR'.out.set HBX.out hOV 0 _).set (blk_set HBX.out 0 _) hOV 1 _, (HB'.out.setCell (p := ⟨O, 0, none⟩) (Nat.le_of_lt hOV) _).setCell (p := ⟨O, 1, none⟩) (Nat.le_of_lt hOV) _, hOV⟩, Lib.hid ((HF'.out.set 0 _).set 1 _)⟩
          case measure => simp [intOf]; omega
    · have hfull : xs.take k = xs := List.take_of_length_le (by omega)
      rw [hfull] at HS
      clear HX0
      go_wp2
      go_end0
      exact ⟨rfl, v1, HS.out, HF.out⟩
set_option maxRecDepth 100000 in
set_option maxHeartbeats 16000000 in
theorem olead_calls {V W : World} {O : Nat} {v : Value} {bs : List Int} {f : Bool} (n : Int) (h : OSt V O v bs f W) (hl : bs.length + 8 ≤ 140737488355328) :
    Calls Try.prog 47 #[.pointer (some ⟨O, 0, none⟩), .int .i64 n] W fun e W' => e = .returned (.tuple #[]) ∧ ∃ v', OSt V O v' (bs ++ putsN [n]) (f && decide (n ≤ 65535) && inN n) W' ∧ FrO (some O) W W' := by
  have HS := Lib.hid h
  have HL := Lib.hid hl
  have c0 := blk_cell h.box 0
  have c1 := blk_cell h.box 1
  have k0 := blk_frozen h.box 0
  have k1 := blk_frozen h.box 1
  clear h hl
  obtain ⟨β, hβ⟩ : ∃ β, β = (f && decide (n ≤ 65535)) := ⟨_, rfl⟩
  rw [← hβ]
  have HF0 := Lib.hid (HS.out.fine β)
  have HFR := Lib.hid ((FrO.refl (some O) W).set 1 (.bool β))
  have HA := Lib.hid (show Below (W.setCell ⟨O, 1, none⟩ (.bool β)).heap.size (W.setCell ⟨O, 1, none⟩ (.bool β)) ((W.setCell ⟨O, 1, none⟩ (.bool β)).alloc (Obj.cells #[.int .i64 n] 3)) from (Below.refl _ _).alloc (Nat.le_refl _) _)
  have HN := Lib.hid (blk_new (W.setCell ⟨O, 1, none⟩ (.bool β)) (Obj.cells #[.int .i64 n] 3))
  have HZ := Lib.hid (show (W.setCell ⟨O, 1, none⟩ (.bool β)).heap.size = W.heap.size from World.size_setCell _ _ _)
  go_enter Try.func47, Try.ntmps47
  cases f
  case false =>
    obtain rfl : β = false := by rw [hβ]; rfl
    clear hβ
    go_wp2_with fail
    refine (onum_calls [n] _ 1 (HF0.out.below HA.out) (.inr ⟨_, rfl, by have := HN.out; rw [HZ.out] at this; exact this⟩) (by simpa using HL.out)).mono ?_
    rintro e u ⟨rfl, v', hs, hf⟩
    go_wp2
    go_end0
    exact ⟨rfl, v', by simpa using hs, (HFR.out.trans (FrO.below HA.out)).trans hf⟩
  case true =>
    obtain rfl : β = decide (n ≤ 65535) := by rw [hβ]; rfl
    clear hβ
    go_wp2_with fail
    refine (onum_calls [n] _ 1 (HF0.out.below HA.out) (.inr ⟨_, rfl, by have := HN.out; rw [HZ.out] at this; exact this⟩) (by simpa using HL.out)).mono ?_
    rintro e u ⟨rfl, v', hs, hf⟩
    go_wp2
    go_end0
    exact ⟨rfl, v', by simpa using hs, (HFR.out.trans (FrO.below HA.out)).trans hf⟩
set_option maxRecDepth 100000 in
set_option maxHeartbeats 16000000 in
theorem olist_calls {V W : World} {O : Nat} {v : Value} {bs : List Int} {f : Bool} (xs : List Int) (A : Option Addr) (c : Nat) (h : OSt V O v bs f W) (hx : RowX V W A xs) (hl : bs.length + 4 * xs.length + 8 ≤ 140737488355328) :
    Calls Try.prog 46 #[.pointer (some ⟨O, 0, none⟩), .slice A xs.length c] W fun e W' => e = .returned (.tuple #[]) ∧ ∃ v', OSt V O v' (bs ++ putsN [(xs.length : Int)] ++ putsN xs) (f && decide ((xs.length : Int) ≤ 65535) && inN xs.length && xs.all inN) W' ∧ FrO (some O) W W' := by
  have HX := Lib.hid (And.intro hx h.box)
  have HS := Lib.hid h
  have HL := Lib.hid hl
  clear hx h hl
  go_enter Try.func46, Try.ntmps46
  go_wp2_with fail
  refine (olead_calls (xs.length : Int) HS.out (by have := HL.out; omega)).mono ?_
  rintro e u ⟨rfl, v', hs, hf⟩
  have HU := Lib.hid hs
  have HF := Lib.hid hf
  clear hs hf
  go_wp2_with fail
  refine (onum_calls xs A c HU.out (HX.out.1.keep HX.out.2 HF.out) (by have := HL.out; have := putsN_len [(xs.length : Int)]; rw [List.length_append]; simp at this; omega)).mono ?_
  rintro e u2 ⟨rfl, v2, hs2, hf2⟩
  go_wp2
  go_end0
  exact ⟨rfl, v2, hs2, HF.out.trans hf2⟩
end Go.Proofs.Ytehbabkgaecoaaa
