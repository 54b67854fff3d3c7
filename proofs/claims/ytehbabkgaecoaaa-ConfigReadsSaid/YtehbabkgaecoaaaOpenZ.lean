/- Arguments opened by their kinds, and how long their slices may be: what the form's reach allows. -/
import Derived.Test.YtehbabkgaecoaaaCfg
import Derived.SizedLaws
namespace Go.Proofs.Ytehbabkgaecoaaa
set_option linter.unusedVariables false
set_option linter.unusedSimpArgs false
open Go.RowKit Go.ChangeShapes Go.WideShapes Go.Proofs.YtehbabkgaecoaaaW.PrintWords

/-- What reads as data of type T, none of it beyond the reach, reads as some Lean value of kind d, of which G holds. -/
structure OpensZ {α : Type} (P : Program) (T : TypeId) (d : Kd α) (G : α → Prop) : Prop where
  get : ∀ {H : Type} (enc : TypeId × Value → H) (w : World) (base : Nat) (spare : Nat → Bool) (held : Bool) (fuel : Nat) (cs : List Value) (x : DataW H × List MemPlace),
    DataW.trod enc P w base spare held fuel T cs = some x → (∀ n ∈ x.1.weights P T, n ≤ 140737488351232) → ∃ a, d.K w a cs ∧ G a
structure OpensFZ {α : Type} (P : Program) (fs : List Field) (off : Nat) (d : Kd α) (G : α → Prop) : Prop where
  get : ∀ {H : Type} (enc : TypeId × Value → H) (w : World) (base : Nat) (spare : Nat → Bool) (held : Bool) (fuel : Nat) (cs : List Value) (xs : List (DataW H × List MemPlace)),
    cs.length = off + d.sz → (∀ (i : Nat) (f : Field), fs[i]? = some f → DataW.trod enc P w base spare held fuel f.type ((cs.drop f.offset).take (P.cellsOf f.type)) = xs[i]?) → xs.length = fs.length →
    (∀ (i : Nat) (f : Field) (z : DataW H × List MemPlace), fs[i]? = some f → xs[i]? = some z → ∀ n ∈ z.1.weights P f.type, n ≤ 140737488351232) → ∃ a, d.K w a (cs.drop off) ∧ G a
theorem weightsAll_mem {H : Type} {P : Program} {e : TypeId} {n : Nat} {d : DataW H} : ∀ {l : List (DataW H)}, d ∈ l → n ∈ d.weights P e → n ∈ DataW.weightsAll P e l
  | [], h, _ => by simp at h
  | x :: l, h, hn => by
    rw [DataW.weightsAll, List.mem_append]
    rcases List.mem_cons.1 h with rfl | h
    · exact .inl hn
    · exact .inr (weightsAll_mem h hn)
section
variable {P : Program}
theorem opensZ_of {α : Type} {T : TypeId} {d : Kd α} {G : α → Prop} (h : Opens P T d G) : OpensZ P T d G :=
  ⟨fun enc w base spare held fuel cs x ht _ => h.get enc w base spare held fuel cs x ht⟩
theorem opensZ_slice {α : Type} {T e : TypeId} {d : Kd α} {G : α → Prop} {B : Nat} (ht : P.underlying T = some (.slice e)) (hd : OpensZ P e d G) (hsz : P.cellsOf e = d.sz) (hB : P.bytesOf e = B) : OpensZ P T (Kd.slice e d) (fun xs => (xs.length ≤ maxLen ∧ xs.length * B ≤ 140737488351232) ∧ ∀ x ∈ xs, G x) := by
  constructor
  intro H enc w base spare held fuel cs x h hwt
  rcases DataW.trod_slice ht h with ⟨rfl, _⟩ | ⟨a, len, cap, elems, rest, n, _, rfl, hx, _, hl, hm, he, hel, _, _⟩
  · exact ⟨[], ⟨none, 0, rfl, by simp, rfl, by simp, fun h => by simp at h⟩, by simp, fun x hx => by simp at hx⟩
  · have hbnd : len * B ≤ 140737488351232 := by
      have := hwt ((elems.length + rest.length) * P.bytesOf e) (by rw [hx]; simp [DataW.weights, ht])
      rw [hB] at this
      exact Nat.le_trans (Nat.mul_le_mul_right _ (by omega)) this
    have key : ∀ i, i < len → ∃ y c, w.cells? base (a.add (i * P.cellsOf e)) (P.cellsOf e) = some c ∧ d.K w y c ∧ G y := by
      intro i hi
      have h1 := hel i hi
      obtain ⟨z, hz⟩ : ∃ z, elems[i]? = some z := ⟨elems[i], List.getElem?_eq_getElem (by omega)⟩
      rw [hz] at h1
      obtain ⟨c, hc, ht2⟩ := Option.bind_eq_some_iff.1 h1
      obtain ⟨y, hy, hg⟩ := hd.get enc w base spare held n c z ht2 (fun m hm => hwt m (by
        rw [hx]
        simp only [DataW.weights, ht, List.mem_cons, List.mem_append]
        exact .inr (.inl (weightsAll_mem (List.mem_map.2 ⟨z, List.mem_of_getElem? hz, rfl⟩) hm))))
      exact ⟨y, c, hc, hy, hg⟩
    have pick : ∃ ys : List α, ys.length = len ∧ ∀ i y, ys[i]? = some y → ∃ c, w.cells? base (a.add (i * P.cellsOf e)) (P.cellsOf e) = some c ∧ d.K w y c ∧ G y := by
      clear hel h he hwt hx
      have : ∀ m, m ≤ len → ∃ ys : List α, ys.length = m ∧ ∀ i y, ys[i]? = some y → ∃ c, w.cells? base (a.add (i * P.cellsOf e)) (P.cellsOf e) = some c ∧ d.K w y c ∧ G y := by
        intro m
        induction m with
        | zero => exact fun _ => ⟨[], rfl, fun i y h => by simp at h⟩
        | succ m ih =>
          intro hm
          obtain ⟨ys, hys, hall⟩ := ih (by omega)
          obtain ⟨y, c, h1, h2, h3⟩ := key m (by omega)
          refine ⟨ys ++ [y], by simp [hys], fun i z hz => ?_⟩
          rcases Nat.lt_or_ge i ys.length with hi | hi
          · rw [List.getElem?_append_left hi] at hz
            exact hall i z hz
          · rw [List.getElem?_append_right hi] at hz
            have hi0 : i - ys.length = 0 := by
              rcases Nat.eq_zero_or_pos (i - ys.length) with h | h
              · exact h
              · rw [List.getElem?_eq_none (by simp; omega)] at hz; cases hz
            rw [hi0] at hz
            cases hz
            have him : i = m := by omega
            subst him
            exact ⟨c, h1, h2, h3⟩
      exact this len (Nat.le_refl _)
    obtain ⟨ys, hys, hall⟩ := pick
    subst hys
    refine ⟨ys, ⟨some a, cap, rfl, hl, rfl, by simp only [maxLen] at hm; omega, fun _ => ⟨a, rfl, fun j q hq => ?_⟩⟩, ⟨by omega, hbnd⟩, fun y hy => ?_⟩
    · obtain ⟨c, h1, h2, _⟩ := hall j q hq
      refine ⟨c, d.K_len h2, h2, fun i u hu => ?_⟩
      rw [hsz] at h1
      obtain ⟨_, hcl, hcell⟩ := World.cells?_some h1
      have hi : i < d.sz := by rw [← hcl]; exact (List.getElem?_eq_some_iff.1 hu).1
      have := hcell i hi
      rw [hu] at this
      rw [← this, add_add']
    · obtain ⟨i, hi, rfl⟩ := List.getElem_of_mem hy
      obtain ⟨_, _, _, h3⟩ := hall i _ (List.getElem?_eq_getElem hi)
      exact h3
theorem opensFZ_one {α : Type} {f : Field} {off : Nat} {d : Kd α} {G : α → Prop} (h : OpensZ P f.type d G) (ho : f.offset = off) (hc : P.cellsOf f.type = d.sz) : OpensFZ P [f] off d G := by
  constructor
  intro H enc w base spare held fuel cs xs hl hx hxl hwt
  have h0 := hx 0 f rfl
  obtain ⟨z, hz⟩ : ∃ z, xs[0]? = some z := ⟨xs[0]'(by simp at hxl; omega), List.getElem?_eq_getElem (by simp at hxl; omega)⟩
  have hw0 := hwt 0 f z rfl hz
  rw [hz, ho, hc, List.take_of_length_le (by simp; omega)] at h0
  exact h.get enc w base spare held fuel _ z h0 hw0
theorem opensFZ_cons {α β : Type} {f : Field} {fs : List Field} {off off' : Nat} {d : Kd α} {e : Kd β} {G : α → Prop} {G' : β → Prop} (h : OpensZ P f.type d G) (ho : f.offset = off) (hc : P.cellsOf f.type = d.sz) (ho' : off' = off + d.sz) (hr : OpensFZ P fs off' e G') : OpensFZ P (f :: fs) off (Kd.pair d e) (fun x => G x.1 ∧ G' x.2) := by
  constructor
  intro H enc w base spare held fuel cs xs hl hx hxl hwt
  have hsz : (Kd.pair d e).sz = d.sz + e.sz := rfl
  have h0 := hx 0 f rfl
  obtain ⟨z, hz⟩ : ∃ z, xs[0]? = some z := ⟨xs[0]'(by simp at hxl; omega), List.getElem?_eq_getElem (by simp at hxl; omega)⟩
  have hw0 := hwt 0 f z rfl hz
  rw [hz, ho, hc] at h0
  obtain ⟨a, ha, hga⟩ := h.get enc w base spare held fuel _ z h0 hw0
  obtain ⟨b, hb, hgb⟩ := hr.get enc w base spare held fuel cs xs.tail (by omega) (fun i g hg => by
    have := hx (i + 1) g (by simpa using hg)
    rw [this]; simp) (by simp at hxl ⊢; omega) (fun i g z hg hz => hwt (i + 1) g z (by simpa using hg) (by rw [List.getElem?_tail] at hz; exact hz))
  refine ⟨(a, b), ⟨(cs.drop off).take d.sz, cs.drop off', ?_, ha, hb⟩, hga, hgb⟩
  rw [ho', ← List.drop_drop, List.take_append_drop]
theorem opensZ_struct {α β : Type} {T : TypeId} {fs : Array Field} {d : Kd α} {G : α → Prop} (f : β → α) (g : α → β) (ht : P.underlying T = some (.struct fs)) (hc : P.cellsOf T = d.sz) (hf : OpensFZ P fs.toList 0 d G) (hfg : ∀ a, f (g a) = a) : OpensZ P T (Kd.iso d f) (fun x => G (f x)) := by
  constructor
  intro H enc w base spare held fuel cs x h hwt
  obtain ⟨xs, n, _, hxe, hl, hxl, hx⟩ := DataW.trod_struct ht h
  obtain ⟨a, ha, hg⟩ := hf.get enc w base spare held n cs xs (by omega) (fun i f hf => hx i f (by simpa using hf)) (by simpa using hxl) (fun i f z hfi hz m hm => hwt m (by
    rw [hxe]
    simp only [DataW.weights, ht]
    exact DataW.weights_mem_each (j := i) (t := f.type) (d := z.1) (by rw [List.getElem?_map, hfi]; rfl) (by rw [List.getElem?_map, hz]; rfl) m hm))
  exact ⟨g a, by show d.K w (f (g a)) cs; rw [hfg]; simpa using ha, by show G (f (g a)); rw [hfg]; exact hg⟩
theorem OpensZ.mono {α : Type} {T : TypeId} {d : Kd α} {G G' : α → Prop} (h : OpensZ P T d G) (hg : ∀ a, G a → G' a) : OpensZ P T d G' := by
  constructor
  intro H enc w base spare held fuel cs x ht hw
  obtain ⟨a, ha, hga⟩ := h.get enc w base spare held fuel cs x ht hw
  exact ⟨a, ha, hg a hga⟩
theorem OpensZ.trod {α : Type} {T : TypeId} {d : Kd α} {G : α → Prop} (h : OpensZ P T d G) {H : Type} {enc : TypeId × Value → H} {w : World} {base : Nat} {spare : Nat → Bool} {held : Bool} {v : Value} {y : DataW H} {p : List MemPlace} (ht : DataW.Trod enc P w base spare held T v y p) (hw : ∀ n ∈ y.weights P T, n ≤ 140737488351232) : ∃ a, d.K w a v.cells.toList ∧ G a := by
  obtain ⟨fuel, hf⟩ := ht
  exact h.get enc w base spare held fuel _ _ hf hw
theorem sized_each {H : Type} {P : Program} {ts : List TypeId} {ds : List (DataW H)} (h : (DataW.weightsEach P ts ds).all (· ≤ reachBytes) = true) {j : Nat} {t : TypeId} {d : DataW H} (ht : ts[j]? = some t) (hd : ds[j]? = some d) : ∀ n ∈ d.weights P t, n ≤ 140737488351232 := by
  intro n hn
  have := List.all_eq_true.1 h _ (DataW.weights_mem_each ht hd n hn)
  exact of_decide_eq_true this
end
/-- How long a configuration's lists may be: what the form's reach allows. -/
structure SzOk (C : S29) : Prop where
  s1 : C.f1.length * 8 ≤ 140737488351232
  s8 : C.f8.length * 24 ≤ 140737488351232
  s9 : C.f9.length * 24 ≤ 140737488351232
  s9' : ∀ r ∈ C.f9, r.length * 8 ≤ 140737488351232
  s10 : C.f10.length * 48 ≤ 140737488351232
  s11 : C.f11.length * 40 ≤ 140737488351232
  s11' : ∀ l ∈ C.f11, l.f1.length * 8 ≤ 140737488351232
theorem oIZ : OpensZ Try.prog 3 kI I64 := opensZ_of oI
theorem oIsZ : OpensZ Try.prog 23 (Kd.slice 3 kI) (fun xs => (xs.length ≤ maxLen ∧ xs.length * 8 ≤ 140737488351232) ∧ ∀ x ∈ xs, I64 x) := opensZ_slice Try.underlying23 oIZ (by kernel_rfl) (by kernel_rfl)
theorem oLinkZ : OpensZ Try.prog 61 k61 (fun l => LinkOk l ∧ l.f1.length * 8 ≤ 140737488351232) :=
  (opensZ_struct (fun x : S61 => (x.f0, x.f1, x.f2)) (fun x => ⟨x.1, x.2.1, x.2.2⟩) Try.underlying61 (by kernel_rfl)
    (opensFZ_cons oIZ rfl (by kernel_rfl) rfl (opensFZ_cons oIsZ rfl (by kernel_rfl) rfl (opensFZ_one oIZ rfl (by kernel_rfl)))) (fun _ => rfl)).mono fun l h => ⟨⟨h.1, ⟨h.2.1.1.1, h.2.1.2⟩, h.2.2⟩, h.2.1.1.2⟩
theorem oCfgZ : OpensZ Try.prog 29 k29 (fun C => CfgOk C ∧ SzOk C) :=
  (opensZ_struct (fun x : S29 => (x.f0, x.f1, x.f2, x.f3, x.f4, x.f5, x.f6, x.f7, x.f8, x.f9, x.f10, x.f11)) (fun x => ⟨x.1, x.2.1, x.2.2.1, x.2.2.2.1, x.2.2.2.2.1, x.2.2.2.2.2.1, x.2.2.2.2.2.2.1, x.2.2.2.2.2.2.2.1, x.2.2.2.2.2.2.2.2.1, x.2.2.2.2.2.2.2.2.2.1, x.2.2.2.2.2.2.2.2.2.2.1, x.2.2.2.2.2.2.2.2.2.2.2⟩) Try.underlying29 (by kernel_rfl)
    (opensFZ_cons oIZ rfl (by kernel_rfl) rfl (opensFZ_cons oIsZ rfl (by kernel_rfl) rfl (opensFZ_cons oIZ rfl (by kernel_rfl) rfl (opensFZ_cons oIZ rfl (by kernel_rfl) rfl (opensFZ_cons oIZ rfl (by kernel_rfl) rfl (opensFZ_cons oIZ rfl (by kernel_rfl) rfl (opensFZ_cons oIZ rfl (by kernel_rfl) rfl (opensFZ_cons oIZ rfl (by kernel_rfl) rfl
    (opensFZ_cons (opensZ_slice Try.underlying24 (opensZ_of oPart) (by kernel_rfl) (B := 24) (by kernel_rfl)) rfl (by kernel_rfl) rfl (opensFZ_cons (opensZ_slice Try.underlying25 oIsZ (by kernel_rfl) (B := 24) (by kernel_rfl)) rfl (by kernel_rfl) rfl (opensFZ_cons (opensZ_slice Try.underlying26 (opensZ_of oPort) (by kernel_rfl) (B := 48) (by kernel_rfl)) rfl (by kernel_rfl) rfl
    (opensFZ_one (opensZ_slice Try.underlying27 oLinkZ (by kernel_rfl) (B := 40) (by kernel_rfl)) rfl (by kernel_rfl))))))))))))) (fun _ => rfl)).mono fun C h => by
    obtain ⟨h0, h1, h2, h3, h4, h5, h6, h7, h8, h9, h10, h11⟩ := h
    exact ⟨⟨h0, ⟨h1.1.1, h1.2⟩, h2, h3, h4, h5, h6, h7, ⟨h8.1.1, h8.2⟩, ⟨h9.1.1, fun x hx => ⟨(h9.2 x hx).1.1, (h9.2 x hx).2⟩⟩, ⟨h10.1.1, h10.2⟩, ⟨h11.1.1, fun x hx => (h11.2 x hx).1⟩⟩,
      ⟨h1.1.2, h8.1.2, h9.1.2, fun r hr => (h9.2 r hr).1.2, h10.1.2, h11.1.2, fun l hl => (h11.2 l hl).2⟩⟩
/-- An argument that is a configuration, opened. -/
theorem open_cfgz {H : Type} {enc : TypeId × Value → H} {W : World} {base : Nat} {sp : Nat → Bool} {held : Bool} {v : Value} {d : DataW H} {p : List MemPlace} (h : DataW.Trod enc Try.prog W base sp held 29 v d p) (hw : ∀ n ∈ d.weights Try.prog 29, n ≤ 140737488351232) :
    ∃ (C : S29) (A1 A8 A9 A10 A11 : Option Addr) (c1 c8 c9 c10 c11 : Nat), v.cells.toList = [.int .i64 C.f0, .slice A1 C.f1.length c1, .int .i64 C.f2, .int .i64 C.f3, .int .i64 C.f4, .int .i64 C.f5, .int .i64 C.f6, .int .i64 C.f7, .slice A8 C.f8.length c8, .slice A9 C.f9.length c9, .slice A10 C.f10.length c10, .slice A11 C.f11.length c11] ∧ CfgIn W C A1 A8 A9 A10 A11 c1 c8 c9 c10 c11 ∧ CfgOk C ∧ SzOk C := by
  obtain ⟨C, hK, hG⟩ := oCfgZ.trod h hw
  obtain ⟨A1, c1, A8, c8, A9, c9, A10, c10, A11, c11, e, l1, g1, l8, g8, l9, g9, l10, g10, l11, g11⟩ := k29_open hK
  exact ⟨C, A1, A8, A9, A10, A11, c1, c8, c9, c10, c11, e, ⟨⟨l1, g1⟩, ⟨l8, g8⟩, ⟨l9, g9⟩, ⟨l10, g10⟩, l11, g11⟩, hG⟩
end Go.Proofs.Ytehbabkgaecoaaa
