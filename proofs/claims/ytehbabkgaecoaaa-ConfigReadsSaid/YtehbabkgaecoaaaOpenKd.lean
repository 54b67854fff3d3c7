/- Arguments opened by their kinds: what of a type's data is read, told as a Lean value (over any program). -/
import Derived.ProofKit
import Derived.OpenShut
import Derived.ChangeArms
import Derived.ChangeSlices
import Derived.DataReads
import Derived.Test.YtehbabkgaecoaaaWWords
namespace Go.Proofs.Ytehbabkgaecoaaa
set_option linter.unusedVariables false
set_option linter.unusedSimpArgs false
open Go.RowKit Go.ChangeShapes Go.WideShapes Go.Proofs.YtehbabkgaecoaaaW.PrintWords

/-- What reads as data of type T reads as some Lean value of kind d, of which G holds. -/
structure Opens {α : Type} (P : Program) (T : TypeId) (d : Kd α) (G : α → Prop) : Prop where
  get : ∀ {H : Type} (enc : TypeId × Value → H) (w : World) (base : Nat) (spare : Nat → Bool) (held : Bool) (fuel : Nat) (cs : List Value) (x : DataW H × List MemPlace),
    DataW.trod enc P w base spare held fuel T cs = some x → ∃ a, d.K w a cs ∧ G a
/-- The same of a struct's fields from a place on. -/
structure OpensF {α : Type} (P : Program) (fs : List Field) (off : Nat) (d : Kd α) (G : α → Prop) : Prop where
  get : ∀ {H : Type} (enc : TypeId × Value → H) (w : World) (base : Nat) (spare : Nat → Bool) (held : Bool) (fuel : Nat) (cs : List Value) (xs : List (DataW H × List MemPlace)),
    cs.length = off + d.sz → (∀ (i : Nat) (f : Field), fs[i]? = some f → DataW.trod enc P w base spare held fuel f.type ((cs.drop f.offset).take (P.cellsOf f.type)) = xs[i]?) → xs.length = fs.length → ∃ a, d.K w a (cs.drop off) ∧ G a
theorem add_add' (a : Addr) (m i : Nat) : (a.add m).add i = a.add (m + i) := by
  unfold Addr.add
  by_cases hi : i = 0
  · subst hi; simp
  · by_cases hm : m = 0
    · subst hm; simp [hi]
    · simp [hi, hm, Nat.add_assoc]
section
variable {P : Program}
theorem opens_int {T : TypeId} {k : IntKind} (ht : P.underlying T = some (.int k)) : Opens P T (Kd.int k) (fun n => (Lit.int k n).wf = true) := by
  constructor
  intro H enc w base spare held fuel cs x h
  obtain ⟨n, rfl, _, hw⟩ := DataW.trod_int ht h
  exact ⟨n, rfl, hw⟩
theorem opens_bool {T : TypeId} (ht : P.underlying T = some .bool) : Opens P T Kd.bool (fun _ => True) := by
  constructor
  intro H enc w base spare held fuel cs x h
  obtain ⟨n, rfl, _⟩ := DataW.trod_bool ht h
  exact ⟨n, rfl, trivial⟩
theorem opens_string {T : TypeId} (ht : P.underlying T = some .string) : Opens P T Kd.string (fun s => s.size ≤ maxLen) := by
  constructor
  intro H enc w base spare held fuel cs x h
  obtain ⟨n, rfl, _, hw⟩ := DataW.trod_string ht h
  exact ⟨n, rfl, hw⟩
theorem opens_slice {α : Type} {T e : TypeId} {d : Kd α} {G : α → Prop} (ht : P.underlying T = some (.slice e)) (hd : Opens P e d G) (hsz : P.cellsOf e = d.sz) : Opens P T (Kd.slice e d) (fun xs => xs.length ≤ maxLen ∧ ∀ x ∈ xs, G x) := by
  constructor
  intro H enc w base spare held fuel cs x h
  rcases DataW.trod_slice ht h with ⟨rfl, _⟩ | ⟨a, len, cap, elems, rest, n, _, rfl, _, _, hl, hm, he, hel, _, _⟩
  · exact ⟨[], ⟨none, 0, rfl, by simp, rfl, by simp, fun h => by simp at h⟩, by simp, fun x hx => by simp at hx⟩
  · have key : ∀ i, i < len → ∃ y c, w.cells? base (a.add (i * P.cellsOf e)) (P.cellsOf e) = some c ∧ d.K w y c ∧ G y := by
      intro i hi
      have h1 := hel i hi
      obtain ⟨z, hz⟩ : ∃ z, elems[i]? = some z := ⟨elems[i], List.getElem?_eq_getElem (by omega)⟩
      rw [hz] at h1
      obtain ⟨c, hc, ht2⟩ := Option.bind_eq_some_iff.1 h1
      obtain ⟨y, hy, hg⟩ := hd.get enc w base spare held n c z ht2
      exact ⟨y, c, hc, hy, hg⟩
    have pick : ∃ ys : List α, ys.length = len ∧ ∀ i y, ys[i]? = some y → ∃ c, w.cells? base (a.add (i * P.cellsOf e)) (P.cellsOf e) = some c ∧ d.K w y c ∧ G y := by
      clear hel h he
      have : ∀ m, m ≤ len → ∃ ys : List α, ys.length = m ∧ ∀ i y, ys[i]? = some y → ∃ c, w.cells? base (a.add (i * P.cellsOf e)) (P.cellsOf e) = some c ∧ d.K w y c ∧ G y := by
        intro m
        induction m with
        | zero => exact fun _ => ⟨[], rfl, fun i y h => by simp at h⟩
        | succ m ih =>
          intro hm
          obtain ⟨ys, hys, hall⟩ := ih (by omega)
          obtain ⟨y, c, h1, h2, h3⟩ := key m (by omega)
          refine ⟨ys ++ [y], by simp [hys], fun i z hz => ?_⟩
          rcases Nat.lt_or_ge i ys.length with hi | hi
          · rw [List.getElem?_append_left hi] at hz
            exact hall i z hz
          · rw [List.getElem?_append_right hi] at hz
            have hi0 : i - ys.length = 0 := by
              rcases Nat.eq_zero_or_pos (i - ys.length) with h | h
              · exact h
              · rw [List.getElem?_eq_none (by simp; omega)] at hz; cases hz
            rw [hi0] at hz
            cases hz
            have him : i = m := by omega
            subst him
            exact ⟨c, h1, h2, h3⟩
      exact this len (Nat.le_refl _)
    obtain ⟨ys, hys, hall⟩ := pick
    subst hys
    refine ⟨ys, ⟨some a, cap, rfl, hl, rfl, by simp only [maxLen] at hm; omega, fun _ => ⟨a, rfl, fun j q hq => ?_⟩⟩, by omega, fun y hy => ?_⟩
    · obtain ⟨c, h1, h2, _⟩ := hall j q hq
      refine ⟨c, d.K_len h2, h2, fun i u hu => ?_⟩
      rw [hsz] at h1
      obtain ⟨_, hcl, hcell⟩ := World.cells?_some h1
      have hi : i < d.sz := by rw [← hcl]; exact (List.getElem?_eq_some_iff.1 hu).1
      have := hcell i hi
      rw [hu] at this
      rw [← this, add_add']
    · obtain ⟨i, hi, rfl⟩ := List.getElem_of_mem hy
      obtain ⟨_, _, _, h3⟩ := hall i _ (List.getElem?_eq_getElem hi)
      exact h3
theorem opensF_one {α : Type} {f : Field} {off : Nat} {d : Kd α} {G : α → Prop} (h : Opens P f.type d G) (ho : f.offset = off) (hc : P.cellsOf f.type = d.sz) : OpensF P [f] off d G := by
  constructor
  intro H enc w base spare held fuel cs xs hl hx hxl
  have h0 := hx 0 f rfl
  obtain ⟨z, hz⟩ : ∃ z, xs[0]? = some z := ⟨xs[0]'(by simp at hxl; omega), List.getElem?_eq_getElem (by simp at hxl; omega)⟩
  rw [hz, ho, hc, List.take_of_length_le (by simp; omega)] at h0
  exact h.get enc w base spare held fuel _ z h0
theorem opensF_cons {α β : Type} {f : Field} {fs : List Field} {off off' : Nat} {d : Kd α} {e : Kd β} {G : α → Prop} {G' : β → Prop} (h : Opens P f.type d G) (ho : f.offset = off) (hc : P.cellsOf f.type = d.sz) (ho' : off' = off + d.sz) (hr : OpensF P fs off' e G') : OpensF P (f :: fs) off (Kd.pair d e) (fun x => G x.1 ∧ G' x.2) := by
  constructor
  intro H enc w base spare held fuel cs xs hl hx hxl
  have hsz : (Kd.pair d e).sz = d.sz + e.sz := rfl
  have h0 := hx 0 f rfl
  obtain ⟨z, hz⟩ : ∃ z, xs[0]? = some z := ⟨xs[0]'(by simp at hxl; omega), List.getElem?_eq_getElem (by simp at hxl; omega)⟩
  rw [hz, ho, hc] at h0
  obtain ⟨a, ha, hga⟩ := h.get enc w base spare held fuel _ z h0
  obtain ⟨b, hb, hgb⟩ := hr.get enc w base spare held fuel cs xs.tail (by omega) (fun i g hg => by
    have := hx (i + 1) g (by simpa using hg)
    rw [this]; simp) (by simp at hxl ⊢; omega)
  refine ⟨(a, b), ⟨(cs.drop off).take d.sz, cs.drop off', ?_, ha, hb⟩, hga, hgb⟩
  rw [ho', ← List.drop_drop, List.take_append_drop]
theorem opens_struct {α β : Type} {T : TypeId} {fs : Array Field} {d : Kd α} {G : α → Prop} (f : β → α) (g : α → β) (ht : P.underlying T = some (.struct fs)) (hc : P.cellsOf T = d.sz) (hf : OpensF P fs.toList 0 d G) (hfg : ∀ a, f (g a) = a) : Opens P T (Kd.iso d f) (fun x => G (f x)) := by
  constructor
  intro H enc w base spare held fuel cs x h
  obtain ⟨xs, n, _, _, hl, hxl, hx⟩ := DataW.trod_struct ht h
  obtain ⟨a, ha, hg⟩ := hf.get enc w base spare held n cs xs (by omega) (fun i f hf => hx i f (by simpa using hf)) (by simpa using hxl)
  exact ⟨g a, by show d.K w (f (g a)) cs; rw [hfg]; simpa using ha, by show G (f (g a)); rw [hfg]; exact hg⟩
theorem Opens.mono {α : Type} {T : TypeId} {d : Kd α} {G G' : α → Prop} (h : Opens P T d G) (hg : ∀ a, G a → G' a) : Opens P T d G' := by
  constructor
  intro H enc w base spare held fuel cs x ht
  obtain ⟨a, ha, hga⟩ := h.get enc w base spare held fuel cs x ht
  exact ⟨a, ha, hg a hga⟩
theorem Opens.trod {α : Type} {T : TypeId} {d : Kd α} {G : α → Prop} (h : Opens P T d G) {H : Type} {enc : TypeId × Value → H} {w : World} {base : Nat} {spare : Nat → Bool} {held : Bool} {v : Value} {y : DataW H} {p : List MemPlace} (ht : DataW.Trod enc P w base spare held T v y p) : ∃ a, d.K w a v.cells.toList ∧ G a := by
  obtain ⟨fuel, hf⟩ := ht
  exact h.get enc w base spare held fuel _ _ hf
end
end Go.Proofs.Ytehbabkgaecoaaa
