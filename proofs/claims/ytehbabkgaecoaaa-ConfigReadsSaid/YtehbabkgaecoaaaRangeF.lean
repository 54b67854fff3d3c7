/- The law of a range over a function, with the frame behind the assignment left to the walk; what the marks of such ranges leave. -/
import Derived.Test.YtehbabkgaecoaaaPairs
import Derived.Test.YtehbabkgaecoaaaWLast
namespace Go.Proofs.Ytehbabkgaecoaaa
set_option linter.unusedVariables false
set_option linter.unusedSimpArgs false
open Go.RowKit Go.Shelf Go.Proofs.YtehbabkgaecoaaaW.PrintWords

/-! The marks of ranges over functions that a frame bears. -/
def mark (D : Nat) : Deferred := { target := .collected D, args := #[] }
/-- Each mark's block is there, beyond B, and no two are one. -/
def Marked (B : Nat) (Ds : List Nat) (W : World) : Prop := Ds.Nodup ∧ ∀ D ∈ Ds, B ≤ D ∧ W.heap[D]? = some (.deferred (some []))
theorem Marked.nil (B : Nat) (W : World) : Marked B [] W := ⟨List.nodup_nil, fun D h => by simp at h⟩
theorem Marked.one {B D : Nat} {W : World} (h : B ≤ D) (hk : W.heap[D]? = some (.deferred (some []))) : Marked B [D] W := ⟨by simp, fun D' h' => by rw [List.mem_singleton.1 h']; exact ⟨h, hk⟩⟩
/-- What was cells lies as it lay, and nothing below B has turned. -/
def Kept0 (B : Nat) (W W' : World) : Prop := Below B W W' ∧ ∀ (k : Nat) (cs : Array Value) (t : TypeId) (fr : Nat × Nat), W.heap[k]? = some (Obj.cells cs t fr) → W'.heap[k]? = some (Obj.cells cs t fr)
theorem leaves_marked {F : Fence} {n : Nat} {P : Program} {fn : Func} {tmps : Array Value} {R : Ending → World → Prop} {B : Nat} (Ds : List Nat) : ∀ (W : World), Marked B Ds W → (∀ W', Kept0 B W W' → LeavesIn F n P fn tmps R [] .returning W') → LeavesInM F n P fn tmps R (Ds.map mark) .returning W := by
  induction Ds with
  | nil => exact fun W _ h => h W ⟨Below.refl _ _, fun _ _ _ _ h => h⟩
  | cons D Ds ih =>
    intro W hm h
    obtain ⟨hn, ha⟩ := hm
    obtain ⟨hD, hk⟩ := ha D (by simp)
    have hlt := (Array.getElem?_eq_some_iff.1 hk).1
    have hm2 : Marked B Ds (W.putObj D (.deferred none)) := by
      refine ⟨(List.nodup_cons.1 hn).2, fun D' h' => ?_⟩
      obtain ⟨h1, h2⟩ := ha D' (List.mem_cons_of_mem _ h')
      refine ⟨h1, ((grownBy_putObj' W D (.deferred none)).block D' (Array.getElem?_eq_some_iff.1 h2).1 (fun e => ?_)).trans h2⟩
      cases e
      exact (List.nodup_cons.1 hn).1 h'
    refine ⟨by simp, .inl ⟨D, _, rfl, run_takeDeferred hk, ih _ hm2 (fun W' hW' => h W' ⟨?_, ?_⟩)⟩⟩
    · exact ((Below.refl B W).grown (grownBy_putObj' W D (.deferred none)) (by omega) (fun k e => by cases e; exact hD)).trans hW'.1
    · intro k cs t fr hc
      refine hW'.2 k cs t fr (((grownBy_putObj' W D (.deferred none)).block k (Array.getElem?_eq_some_iff.1 hc).1 (fun e => ?_)).trans hc)
      cases e
      rw [hk] at hc; cases hc
/-- A block of cells that lies beyond nothing in particular: it stays where only what is no cells is turned. -/
theorem ownFrom_blk {α : Type} {B g : Nat} {t : TypeId} {cs : Array Value} : OwnFrom B (fun (_ : List α) W => W.heap[g]? = some (Obj.cells cs t (0, 0))) := fun _ _ _ _ hs hg hr =>
  (hg.block g (Array.getElem?_eq_some_iff.1 hs).1 (fun e' => by obtain ⟨_, o, ho, hc⟩ := hr g e'.symm; rw [hs] at ho; cases ho; cases hc)).trans hs
theorem ownFrom_below' {α : Type} {B s : Nat} {w : World} (hs : s ≤ B) (h2 : s ≤ w.heap.size) : OwnFrom B (fun (_ : List α) W => Below s w W) := fun _ _ _ _ hb hg hr =>
  hb.grown hg (Nat.le_trans h2 hb.size) (fun k e => by obtain ⟨h, _⟩ := hr k e; omega)
theorem ownFrom_and {α : Type} {B : Nat} {I J : List α → World → Prop} (h : OwnFrom B I) (k : OwnFrom B J) : OwnFrom B (fun l W => I l W ∧ J l W) := fun s X Y row hs hg hr => ⟨h s X Y row hs.1 hg hr, k s X Y row hs.2 hg hr⟩
theorem ownFrom_false {α : Type} {B : Nat} : OwnFrom B (fun (_ : List α) _ => False) := fun _ _ _ _ h _ _ => h
theorem ownFrom_const {α : Type} {B : Nat} (p : List α → Prop) : OwnFrom B (fun l _ => p l) := fun _ _ _ _ h _ _ => h

section
variable {F : Fence} {n : Nat} {P : Program}
theorem range_own {α : Type} {g : Operand} {ps : Array Tmp} {assign body : Code} {Q : Exit → Act → World → Prop} {a : Act} {w : World}
    (hro : F.round = none) (h1 : 1 ≤ n) {gf : Nat} {lb : Array Value} (hg : a.eval g = .func (.func gf) #[] lb) (hFg : F.fn gf) (eg : ∀ args w, (callFunc gf args).run P w = .ok (.enter gf args) w)
    {encs : α → Array Value} {Kp : World → World → Prop} {S Sp : List α → Prop} {N : Nat} (hseq : SeqStopsK F (n - 1) P gf lb encs Kp S Sp N w)
    (hKt : ∀ {A B C : World}, Kp A B → Kp B C → Kp A C) (hKb : ∀ (W : World) (l : Nat) (o o' : Obj), w.heap.size ≤ l → W.heap[l]? = some o → o.isCells = false → o.isWalk = false → Kp W (W.putObj l o')) (hps : ∀ x, (encs x).size = ps.size)
    (I : List α → World → Prop) (Ix : Code → List α → World → Prop) (hI : OwnFrom w.heap.size I) (hIx : ∀ c, OwnFrom w.heap.size (Ix c)) (h0 : I [] w)
    (hbody : ∃ a₁ : α → Act, (∀ (l : Nat) (x : α) (W : World) (K : Act → World → Prop), Hid (K (a₁ x) W) →
        assign.wpIn (F.inRound l) (n - 1 - 1) P (Exit.then K (fun _ _ _ => False)) { tmps := (ps.zip (encs x)).foldl (fun t (p, v) => t.setIfInBounds p v) a.tmps, defers := [] } W) ∧
      ∀ (l : Nat) (pre : List α) (x : α) (W : World), I pre W → pre.length < N → body.wpIn (F.inRound l) (n - 1 - 1) P (ownPostK Kp I Ix (pre ++ [x]) W) (a₁ x) W)
    (hdone : ∀ (D : Nat) (xs : List α) (W : World), w.heap.size ≤ D → S xs → I xs W → W.heap[D]? = some (.deferred (some [])) → Q .normal { a with defers := { target := .collected D, args := #[] } :: a.defers } W)
    (hstop : ∀ (D : Nat) (c : Code) (pre : List α) (W : World), w.heap.size ≤ D → Sp pre → Ix c pre W → W.heap[D]? = some (.deferred (some [])) → c.wpIn F n P Q { a with defers := { target := .collected D, args := #[] } :: a.defers } W) :
    (Code.rangeFunc g ps assign body).wpIn F n P Q a w := by
  obtain ⟨a₁, ha, hb⟩ := hbody
  exact wpIn_rangeFunc_ownF hro h1 hg hFg eg hseq hKt hKb (Below.refl _ _) hps I Ix hI hIx h0 a₁ (fun l x W K hK => ha l x W K (Lib.hid hK)) hb hdone hstop
end
/-! A region that draws its order, within a round. -/
section
variable {P : Program} {ops : Array Oper} {Q : Exit → Act → World → Prop} {l n : Nat}
theorem uponIn_of_upon {o : Oper} {a : Act} {next : Act → World → Prop} {r : Result Next} (h : o.upon P a next Q r) : o.uponIn (Fence.wide.inRound l) n P a next Q r := by
  cases r with
  | ok nx w' =>
    cases nx with
    | enter f args => exact ⟨fun h => by simp [Fence.wide] at h, (callsIn_wide.2 h).inRound l⟩
    | row row args => exact ⟨fun h => by simp [Fence.wide] at h, fun c cs _ => by
        obtain ⟨v, w', hr, hs⟩ := h c cs
        exact ⟨v, w', hr, stepsIn_wide.2 hs⟩⟩
    | _ => first | exact h | exact (h : False).elim
  | halt x w' => cases x <;> first | exact h | exact (h : False).elim
theorem wpOpIn_of {i : Nat} {K : Act → World → Prop} {a : Act} {w : World} (hd : ∀ o, ops[i]? = some o → ∀ c, o.op ≠ .defer c) (hout : ¬ LetsOut Q) (h : wpOp P ops Q i K a w) : wpOpIn (Fence.wide.inRound l) n P ops Q i K a w := by
  unfold wpOp at h
  unfold wpOpIn
  cases ho : ops[i]? with
  | none => rw [ho] at h; exact h
  | some o =>
    rw [ho] at h
    simp only at h ⊢
    split
    · rename_i hw
      rw [if_pos hw] at h
      rcases h with h | ⟨_, h⟩
      · refine ⟨fun _ _ => trivial, ?_⟩
        rw [Oper.semAt_eq _ _ _ (hd o ho)]
        exact uponIn_of_upon h
      · exact absurd h hout
    · rename_i hw
      rw [if_neg hw] at h
      exact ⟨fun _ _ => trivial, h⟩
theorem wpAnyIn_of {md : Region.Mode} (hd : ∀ (i : Nat) o, ops[i]? = some o → ∀ c, o.op ≠ .defer c) (hout : ¬ LetsOut Q) : ∀ (fuel : Nat) (listed : Array Bool) (a : Act) (w : World), wpAny P md ops Q fuel listed a w → wpAnyIn (Fence.wide.inRound l) n P md ops Q fuel listed a w
  | 0, _, _, _, h => h
  | fuel + 1, _, _, _, h => ⟨h.1, fun i hi => wpOpIn_mono (fun a' w' h' => wpAnyIn_of hd hout fuel _ a' w' h') (wpOpIn_of (hd i) hout (h.2 i hi))⟩
def noDefer (ops : Array Oper) : Bool := ops.all fun o => match o.op with | .defer _ => false | _ => true
theorem noDefer_spec (h : noDefer ops = true) (i : Nat) (o : Oper) (hi : ops[i]? = some o) (c : _) : o.op ≠ .defer c := by
  intro he
  have hm : o ∈ ops := Array.mem_of_getElem? hi
  have := (Array.all_eq_true_iff_forall_mem.1 h) o hm
  rw [he] at this
  cases this
/-- What lay in W lies so in V, and what is no cells stays. -/
def Sd (W V : World) : Prop := Below W.heap.size W V ∧ KeepsOthers W V
theorem Sd.drew0 (W : World) : Sd W W.drew := ⟨(Below.refl _ _).drew, KeepsOthers.drew _⟩
theorem Sd.alloc {W V : World} (h : Sd W V) (cs : Array Value) (t : TypeId) : Sd W (V.alloc (.cells cs t)) := ⟨h.1.alloc h.1.size _, h.2.trans (KeepsOthers.alloc _ _)⟩
theorem Sd.set {W V : World} (h : Sd W V) {b j : Nat} (hb : W.heap.size ≤ b) (u : Value) : Sd W (V.setCell ⟨b, j, none⟩ u) := ⟨h.1.setCell (p := ⟨b, j, none⟩) hb _, h.2.trans (KeepsOthers.setCell _ _ _)⟩
theorem Sd.cell {W V : World} (h : Sd W V) {p : Addr} {v : Value} (hc : W.cell? p = some v) : V.cell? p = some v := (h.1.cell (World.block_lt_of_cell? W _ hc)).trans hc
open Go.Proofs.YtehbabkgaecoaaaW.PrintLast in
/-- The law: what each order comes to (by the words' steps), the frame told by what is put. -/
theorem region_round {id N : Nat} {σ : Type} {a : Act} {w : World} {S : World → Prop} {ds : List Nat} (vals : σ → List (Tmp × Value)) (R : σ → World → Prop) (lst : Array Bool) (_hS : S w.drew) (hm : P.follows .mixedOrders = true) (hd : noDefer ops = true) (hN : ops.size = N) (hl : Array.replicate N false = lst)
    (h1 : wpAnyLast P .any ops (fun e a' w' => e = .normal ∧ ∃ s, a' = putAll a (vals s) ∧ R s w') S ds N lst a w.drew)
    (h2 : ∀ s w', R s w' → Q .normal (putAll a (vals s)) w') : (Code.region id ops true).wpIn (Fence.wide.inRound l) n P Q a w := by
  subst hN
  subst hl
  refine wpIn_mono (Q := fun e a' w' => e = .normal ∧ ∃ s, a' = putAll a (vals s) ∧ R s w') (wpIn_region_any hm (wpAnyIn_of (noDefer_spec hd) (by rintro ⟨a', w', h, _⟩; cases h) _ _ _ _ (wpAny_of_last _ _ _ _ h1))) ?_
  rintro e a' w' ⟨rfl, s, rfl, hr⟩
  exact h2 s w' hr
end
end Go.Proofs.Ytehbabkgaecoaaa
