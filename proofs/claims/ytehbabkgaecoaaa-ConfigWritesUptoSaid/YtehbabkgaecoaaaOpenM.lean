/- Arguments opened by their kinds, with their bulk: for the statements '..UptoSaid'. -/
import Derived.Test.YtehbabkgaecoaaaOpenZ
import Derived.Test.YtehbabkgaecoaaaEnN
import Derived.Test.YtehbabkgaecoaaaRows
namespace Go.Proofs.Ytehbabkgaecoaaa
set_option linter.unusedVariables false
set_option linter.unusedSimpArgs false
open Go.RowKit Go.ChangeShapes Go.WideShapes Go.Proofs.YtehbabkgaecoaaaW.PrintWords

/-- What reads as data of type T, none of it beyond the reach, reads as some Lean value of kind d, of which G holds, of a measure within its bulk. -/
structure OpensM {α : Type} (P : Program) (T : TypeId) (d : Kd α) (G : α → Prop) (m : α → Nat) : Prop where
  get : ∀ {H : Type} (enc : TypeId × Value → H) (w : World) (base : Nat) (spare : Nat → Bool) (held : Bool) (fuel : Nat) (cs : List Value) (x : DataW H × List MemPlace),
    DataW.trod enc P w base spare held fuel T cs = some x → (∀ n ∈ x.1.weights P T, n ≤ 140737488351232) → ∃ a, d.K w a cs ∧ G a ∧ m a ≤ Rows.uptoBulk x.1
structure OpensFM {α : Type} (P : Program) (fs : List Field) (off : Nat) (d : Kd α) (G : α → Prop) (m : α → Nat) : Prop where
  get : ∀ {H : Type} (enc : TypeId × Value → H) (w : World) (base : Nat) (spare : Nat → Bool) (held : Bool) (fuel : Nat) (cs : List Value) (xs : List (DataW H × List MemPlace)),
    cs.length = off + d.sz → (∀ (i : Nat) (f : Field), fs[i]? = some f → DataW.trod enc P w base spare held fuel f.type ((cs.drop f.offset).take (P.cellsOf f.type)) = xs[i]?) → xs.length = fs.length →
    (∀ (i : Nat) (f : Field) (z : DataW H × List MemPlace), fs[i]? = some f → xs[i]? = some z → ∀ n ∈ z.1.weights P f.type, n ≤ 140737488351232) → ∃ a, d.K w a (cs.drop off) ∧ G a ∧ m a ≤ Rows.uptoBulkAll (xs.map (·.1))
section
variable {P : Program}
theorem bulk_one {H : Type} (d : DataW H) : 1 ≤ Rows.uptoBulk d := by
  cases d with
  | lit l => cases l <;> simp [Rows.uptoBulk]
  | nil => simp [Rows.uptoBulk]
  | ptr d => simp [Rows.uptoBulk]
  | slice elems spare => simp [Rows.uptoBulk]
  | agg parts => simp [Rows.uptoBulk]
  | iface t d => simp [Rows.uptoBulk]
  | map entries => simp [Rows.uptoBulk]
  | held h => simp [Rows.uptoBulk]
theorem bulk_sum {α H : Type} {m : α → Nat} : ∀ (ys : List α) (zs : List (DataW H × List MemPlace)), ys.length = zs.length → (∀ (i : Nat) y z, ys[i]? = some y → zs[i]? = some z → m y ≤ Rows.uptoBulk z.1) → (ys.map m).sum ≤ Rows.uptoBulkAll (zs.map (·.1))
  | [], [], _, _ => by simp [Rows.uptoBulkAll]
  | [], _ :: _, h, _ => by cases h
  | _ :: _, [], h, _ => by cases h
  | y :: ys, z :: zs, h, hm => by
    have h0 := hm 0 y z rfl rfl
    have h1 := bulk_sum ys zs (by simpa using h) (fun i a b ha hb => hm (i + 1) a b (by simpa using ha) (by simpa using hb))
    simp only [List.map_cons, List.sum_cons, Rows.uptoBulkAll]
    omega
theorem sum_ones {α : Type} (l : List α) : (l.map fun _ => 1).sum = l.length := by induction l with
  | nil => rfl
  | cons x l ih => rw [List.map_cons, List.sum_cons, ih, List.length_cons]; omega
theorem opensM_of {α : Type} {T : TypeId} {d : Kd α} {G : α → Prop} (h : Opens P T d G) : OpensM P T d G (fun _ => 1) := by
  constructor
  intro H enc w base spare held fuel cs x ht _
  obtain ⟨a, h1, h2⟩ := h.get enc w base spare held fuel cs x ht
  exact ⟨a, h1, h2, bulk_one _⟩
theorem opensM_slice {α : Type} {T e : TypeId} {d : Kd α} {G : α → Prop} {m : α → Nat} {B : Nat} (ht : P.underlying T = some (.slice e)) (hd : OpensM P e d G m) (hsz : P.cellsOf e = d.sz) (hB : P.bytesOf e = B) : OpensM P T (Kd.slice e d) (fun xs => (xs.length ≤ maxLen ∧ xs.length * B ≤ 140737488351232) ∧ ∀ x ∈ xs, G x) (fun xs => 1 + (xs.map m).sum) := by
  constructor
  intro H enc w base spare held fuel cs x h hwt
  rcases DataW.trod_slice ht h with ⟨rfl, _⟩ | ⟨a, len, cap, elems, rest, n, _, rfl, hx, _, hl, hm, he, hel, _, _⟩
  · exact ⟨[], ⟨none, 0, rfl, by simp, rfl, by simp, fun h => by simp at h⟩, ⟨by simp, fun x hx => by simp at hx⟩, by have := bulk_one x.1; simpa using this⟩
  · have hbnd : len * B ≤ 140737488351232 := by
      have := hwt ((elems.length + rest.length) * P.bytesOf e) (by rw [hx]; simp [DataW.weights, ht])
      rw [hB] at this
      exact Nat.le_trans (Nat.mul_le_mul_right _ (by omega)) this
    have key : ∀ i, i < len → ∃ y c z, w.cells? base (a.add (i * P.cellsOf e)) (P.cellsOf e) = some c ∧ d.K w y c ∧ G y ∧ elems[i]? = some z ∧ m y ≤ Rows.uptoBulk z.1 := by
      intro i hi
      have h1 := hel i hi
      obtain ⟨z, hz⟩ : ∃ z, elems[i]? = some z := ⟨elems[i], List.getElem?_eq_getElem (by omega)⟩
      rw [hz] at h1
      obtain ⟨c, hc, ht2⟩ := Option.bind_eq_some_iff.1 h1
      obtain ⟨y, hy, hg, hmm⟩ := hd.get enc w base spare held n c z ht2 (fun n hm => hwt n (by
        rw [hx]
        simp only [DataW.weights, ht, List.mem_cons, List.mem_append]
        exact .inr (.inl (weightsAll_mem (List.mem_map.2 ⟨z, List.mem_of_getElem? hz, rfl⟩) hm))))
      exact ⟨y, c, z, hc, hy, hg, hz, hmm⟩
    have pick : ∃ ys : List α, ys.length = len ∧ ∀ i y, ys[i]? = some y → ∃ c z, w.cells? base (a.add (i * P.cellsOf e)) (P.cellsOf e) = some c ∧ d.K w y c ∧ G y ∧ elems[i]? = some z ∧ m y ≤ Rows.uptoBulk z.1 := by
      clear hel h hwt hx
      have : ∀ n, n ≤ len → ∃ ys : List α, ys.length = n ∧ ∀ i y, ys[i]? = some y → ∃ c z, w.cells? base (a.add (i * P.cellsOf e)) (P.cellsOf e) = some c ∧ d.K w y c ∧ G y ∧ elems[i]? = some z ∧ m y ≤ Rows.uptoBulk z.1 := by
        intro n
        induction n with
        | zero => exact fun _ => ⟨[], rfl, fun i y h => by simp at h⟩
        | succ n ih =>
          intro hm
          obtain ⟨ys, hys, hall⟩ := ih (by omega)
          obtain ⟨y, c, z, h1, h2, h3, h4, h5⟩ := key n (by omega)
          refine ⟨ys ++ [y], by simp [hys], fun i z hz => ?_⟩
          rcases Nat.lt_or_ge i ys.length with hi | hi
          · rw [List.getElem?_append_left hi] at hz
            exact hall i z hz
          · rw [List.getElem?_append_right hi] at hz
            have hi0 : i - ys.length = 0 := by
              rcases Nat.eq_zero_or_pos (i - ys.length) with h | h
              · exact h
              · rw [List.getElem?_eq_none (by simp; omega)] at hz; cases hz
            rw [hi0] at hz
            cases hz
            have him : i = n := by omega
            subst him
            exact ⟨c, z, h1, h2, h3, h4, h5⟩
      exact this len (Nat.le_refl _)
    obtain ⟨ys, hys, hall⟩ := pick
    subst hys
    refine ⟨ys, ⟨some a, cap, rfl, hl, rfl, by simp only [maxLen] at hm; omega, fun _ => ⟨a, rfl, fun j q hq => ?_⟩⟩, ⟨⟨by omega, hbnd⟩, fun y hy => ?_⟩, ?_⟩
    · obtain ⟨c, _, h1, h2, _⟩ := hall j q hq
      refine ⟨c, d.K_len h2, h2, fun i u hu => ?_⟩
      rw [hsz] at h1
      obtain ⟨_, hcl, hcell⟩ := World.cells?_some h1
      have hi : i < d.sz := by rw [← hcl]; exact (List.getElem?_eq_some_iff.1 hu).1
      have := hcell i hi
      rw [hu] at this
      rw [← this, add_add']
    · obtain ⟨i, hi, rfl⟩ := List.getElem_of_mem hy
      obtain ⟨_, _, _, _, h3, _⟩ := hall i _ (List.getElem?_eq_getElem hi)
      exact h3
    · rw [hx]
      simp only [Rows.uptoBulk]
      have := bulk_sum (m := m) ys elems (by omega) (fun i y z hy hz => by
        obtain ⟨_, z2, _, _, _, h4, h5⟩ := hall i y hy
        rw [hz] at h4
        injection h4 with h4
        rw [h4]; exact h5)
      omega
theorem opensFM_one {α : Type} {f : Field} {off : Nat} {d : Kd α} {G : α → Prop} {m : α → Nat} (h : OpensM P f.type d G m) (ho : f.offset = off) (hc : P.cellsOf f.type = d.sz) : OpensFM P [f] off d G m := by
  constructor
  intro H enc w base spare held fuel cs xs hl hx hxl hwt
  have h0 := hx 0 f rfl
  obtain ⟨z, hz⟩ : ∃ z, xs[0]? = some z := ⟨xs[0]'(by simp at hxl; omega), List.getElem?_eq_getElem (by simp at hxl; omega)⟩
  have hw0 := hwt 0 f z rfl hz
  rw [hz, ho, hc, List.take_of_length_le (by simp; omega)] at h0
  obtain ⟨a, h1, h2, h3⟩ := h.get enc w base spare held fuel _ z h0 hw0
  refine ⟨a, h1, h2, ?_⟩
  match xs, hxl, hz with
  | [y], _, hz =>
    injection hz with hz
    subst hz
    simpa [Rows.uptoBulkAll] using h3
theorem opensFM_cons {α β : Type} {f : Field} {fs : List Field} {off off' : Nat} {d : Kd α} {e : Kd β} {G : α → Prop} {G' : β → Prop} {m : α → Nat} {m' : β → Nat} (h : OpensM P f.type d G m) (ho : f.offset = off) (hc : P.cellsOf f.type = d.sz) (ho' : off' = off + d.sz) (hr : OpensFM P fs off' e G' m') : OpensFM P (f :: fs) off (Kd.pair d e) (fun x => G x.1 ∧ G' x.2) (fun x => m x.1 + m' x.2) := by
  constructor
  intro H enc w base spare held fuel cs xs hl hx hxl hwt
  have hsz : (Kd.pair d e).sz = d.sz + e.sz := rfl
  have h0 := hx 0 f rfl
  obtain ⟨z, hz⟩ : ∃ z, xs[0]? = some z := ⟨xs[0]'(by simp at hxl; omega), List.getElem?_eq_getElem (by simp at hxl; omega)⟩
  have hw0 := hwt 0 f z rfl hz
  rw [hz, ho, hc] at h0
  obtain ⟨a, ha, hga, hma⟩ := h.get enc w base spare held fuel _ z h0 hw0
  obtain ⟨b, hb, hgb, hmb⟩ := hr.get enc w base spare held fuel cs xs.tail (by omega) (fun i g hg => by
    have := hx (i + 1) g (by simpa using hg)
    rw [this]; simp) (by simp at hxl ⊢; omega) (fun i g z hg hz => hwt (i + 1) g z (by simpa using hg) (by rw [List.getElem?_tail] at hz; exact hz))
  refine ⟨(a, b), ⟨(cs.drop off).take d.sz, cs.drop off', ?_, ha, hb⟩, ⟨hga, hgb⟩, ?_⟩
  · rw [ho', ← List.drop_drop, List.take_append_drop]
  · match xs, hxl, hz with
    | y :: xs, _, hz =>
      injection hz with hz
      subst hz
      simp only [List.map_cons, Rows.uptoBulkAll, List.tail_cons] at hmb ⊢
      omega
theorem opensM_struct {α β : Type} {T : TypeId} {fs : Array Field} {d : Kd α} {G : α → Prop} {m : α → Nat} (f : β → α) (g : α → β) (ht : P.underlying T = some (.struct fs)) (hc : P.cellsOf T = d.sz) (hf : OpensFM P fs.toList 0 d G m) (hfg : ∀ a, f (g a) = a) : OpensM P T (Kd.iso d f) (fun x => G (f x)) (fun x => 1 + m (f x)) := by
  constructor
  intro H enc w base spare held fuel cs x h hwt
  obtain ⟨xs, n, _, hxe, hl, hxl, hx⟩ := DataW.trod_struct ht h
  obtain ⟨a, ha, hg, hma⟩ := hf.get enc w base spare held n cs xs (by omega) (fun i f hf => hx i f (by simpa using hf)) (by simpa using hxl) (fun i f z hfi hz n hm => hwt n (by
    rw [hxe]
    simp only [DataW.weights, ht]
    exact DataW.weights_mem_each (j := i) (t := f.type) (d := z.1) (by rw [List.getElem?_map, hfi]; rfl) (by rw [List.getElem?_map, hz]; rfl) n hm))
  exact ⟨g a, by show d.K w (f (g a)) cs; rw [hfg]; simpa using ha, by show G (f (g a)); rw [hfg]; exact hg, by
    rw [hfg, hxe]
    simp only [Rows.uptoBulk]
    omega⟩
theorem OpensM.mono {α : Type} {T : TypeId} {d : Kd α} {G G' : α → Prop} {m m' : α → Nat} (h : OpensM P T d G m) (hg : ∀ a, G a → G' a) (hm : ∀ a, m' a ≤ m a) : OpensM P T d G' m' := by
  constructor
  intro H enc w base spare held fuel cs x ht hw
  obtain ⟨a, ha, hga, hma⟩ := h.get enc w base spare held fuel cs x ht hw
  exact ⟨a, ha, hg a hga, Nat.le_trans (hm a) hma⟩
theorem OpensM.trod {α : Type} {T : TypeId} {d : Kd α} {G : α → Prop} {m : α → Nat} (h : OpensM P T d G m) {H : Type} {enc : TypeId × Value → H} {w : World} {base : Nat} {spare : Nat → Bool} {held : Bool} {v : Value} {y : DataW H} {p : List MemPlace} (ht : DataW.Trod enc P w base spare held T v y p) (hw : ∀ n ∈ y.weights P T, n ≤ 140737488351232) : ∃ a, d.K w a v.cells.toList ∧ G a ∧ m a ≤ Rows.uptoBulk y := by
  obtain ⟨fuel, hf⟩ := ht
  exact h.get enc w base spare held fuel _ _ hf hw
end
theorem oIM : OpensM Try.prog 3 kI I64 (fun _ => 1) := opensM_of oI
theorem oPartM : OpensM Try.prog 57 k57 PartOk (fun _ => 3) :=
  (opensM_struct (fun x : S57 => (x.f0, x.f1, x.f2)) (fun x => ⟨x.1, x.2.1, x.2.2⟩) Try.underlying57 (by kernel_rfl)
    (opensFM_cons oIM rfl (by kernel_rfl) rfl (opensFM_cons oIM rfl (by kernel_rfl) rfl (opensFM_one oIM rfl (by kernel_rfl)))) (fun _ => rfl)).mono (fun _ h => h) (fun _ => by simp)
theorem oPortM : OpensM Try.prog 59 k59 PortOk (fun _ => 6) :=
  (opensM_struct (fun x : S59 => (x.f0, x.f1, x.f2, x.f3, x.f4, x.f5)) (fun x => ⟨x.1, x.2.1, x.2.2.1, x.2.2.2.1, x.2.2.2.2.1, x.2.2.2.2.2⟩) Try.underlying59 (by kernel_rfl)
    (opensFM_cons oIM rfl (by kernel_rfl) rfl (opensFM_cons oIM rfl (by kernel_rfl) rfl (opensFM_cons oIM rfl (by kernel_rfl) rfl (opensFM_cons oIM rfl (by kernel_rfl) rfl (opensFM_cons oIM rfl (by kernel_rfl) rfl (opensFM_one oIM rfl (by kernel_rfl))))))) (fun _ => rfl)).mono (fun _ h => h) (fun _ => by simp)
theorem oIsM : OpensM Try.prog 23 (Kd.slice 3 kI) (fun xs => (xs.length ≤ maxLen ∧ xs.length * 8 ≤ 140737488351232) ∧ ∀ x ∈ xs, I64 x) (fun xs => 1 + (xs.map fun _ => 1).sum) := opensM_slice Try.underlying23 oIM (by kernel_rfl) (by kernel_rfl)
theorem oLinkM : OpensM Try.prog 61 k61 (fun l => LinkOk l ∧ l.f1.length * 8 ≤ 140737488351232) (fun l => 3 + l.f1.length) :=
  (opensM_struct (fun x : S61 => (x.f0, x.f1, x.f2)) (fun x => ⟨x.1, x.2.1, x.2.2⟩) Try.underlying61 (by kernel_rfl)
    (opensFM_cons oIM rfl (by kernel_rfl) rfl (opensFM_cons oIsM rfl (by kernel_rfl) rfl (opensFM_one oIM rfl (by kernel_rfl)))) (fun _ => rfl)).mono (fun l h => ⟨⟨h.1, ⟨h.2.1.1.1, h.2.1.2⟩, h.2.2⟩, h.2.1.1.2⟩) (fun l => by simp [sum_ones]; omega)
theorem oCfgM : OpensM Try.prog 29 k29 (fun C => CfgOk C ∧ SzOk C) (fun C => (cfgNums C).length) :=
  (opensM_struct (fun x : S29 => (x.f0, x.f1, x.f2, x.f3, x.f4, x.f5, x.f6, x.f7, x.f8, x.f9, x.f10, x.f11)) (fun x => ⟨x.1, x.2.1, x.2.2.1, x.2.2.2.1, x.2.2.2.2.1, x.2.2.2.2.2.1, x.2.2.2.2.2.2.1, x.2.2.2.2.2.2.2.1, x.2.2.2.2.2.2.2.2.1, x.2.2.2.2.2.2.2.2.2.1, x.2.2.2.2.2.2.2.2.2.2.1, x.2.2.2.2.2.2.2.2.2.2.2⟩) Try.underlying29 (by kernel_rfl)
    (opensFM_cons oIM rfl (by kernel_rfl) rfl (opensFM_cons oIsM rfl (by kernel_rfl) rfl (opensFM_cons oIM rfl (by kernel_rfl) rfl (opensFM_cons oIM rfl (by kernel_rfl) rfl (opensFM_cons oIM rfl (by kernel_rfl) rfl (opensFM_cons oIM rfl (by kernel_rfl) rfl (opensFM_cons oIM rfl (by kernel_rfl) rfl (opensFM_cons oIM rfl (by kernel_rfl) rfl
    (opensFM_cons (opensM_slice Try.underlying24 oPartM (by kernel_rfl) (B := 24) (by kernel_rfl)) rfl (by kernel_rfl) rfl (opensFM_cons (opensM_slice Try.underlying25 oIsM (by kernel_rfl) (B := 24) (by kernel_rfl)) rfl (by kernel_rfl) rfl (opensFM_cons (opensM_slice Try.underlying26 oPortM (by kernel_rfl) (B := 48) (by kernel_rfl)) rfl (by kernel_rfl) rfl
    (opensFM_one (opensM_slice Try.underlying27 oLinkM (by kernel_rfl) (B := 40) (by kernel_rfl)) rfl (by kernel_rfl))))))))))))) (fun _ => rfl)).mono (fun C h => by
    obtain ⟨h0, h1, h2, h3, h4, h5, h6, h7, h8, h9, h10, h11⟩ := h
    exact ⟨⟨h0, ⟨h1.1.1, h1.2⟩, h2, h3, h4, h5, h6, h7, ⟨h8.1.1, h8.2⟩, ⟨h9.1.1, fun x hx => ⟨(h9.2 x hx).1.1, (h9.2 x hx).2⟩⟩, ⟨h10.1.1, h10.2⟩, ⟨h11.1.1, fun x hx => (h11.2 x hx).1⟩⟩,
      ⟨h1.1.2, h8.1.2, h9.1.2, fun r hr => (h9.2 r hr).1.2, h10.1.2, h11.1.2, fun l hl => (h11.2 l hl).2⟩⟩) (fun C => by
    rw [cn_len]
    have e8 : (C.f8.flatMap prN).length ≤ (C.f8.map fun _ => 3).sum := by rw [List.length_flatMap]; exact Nat.le_of_eq rfl
    have e9 : (C.f9.flatMap liN).length ≤ (C.f9.map fun xs => 1 + (xs.map fun _ => 1).sum).sum := by rw [List.length_flatMap]; exact Nat.le_of_eq (congrArg List.sum (List.map_congr_left fun x _ => by simp [liN, sum_ones]; omega))
    have e10 : (C.f10.flatMap poN).length ≤ (C.f10.map fun _ => 6).sum := by rw [List.length_flatMap]; exact Nat.le_of_eq rfl
    have e11 : (C.f11.flatMap lkN).length ≤ (C.f11.map fun l => 3 + l.f1.length).sum := by rw [List.length_flatMap]; exact Nat.le_of_eq (congrArg List.sum (List.map_congr_left fun x _ => by simp [lkN, liN]; omega))
    simp only [List.map_const', List.sum_replicate_nat] at e8 e9 e10 ⊢
    omega)
/-- An argument that is a configuration, opened. -/
theorem open_cfgm {H : Type} {enc : TypeId × Value → H} {W : World} {base : Nat} {sp : Nat → Bool} {held : Bool} {v : Value} {d : DataW H} {p : List MemPlace} (h : DataW.Trod enc Try.prog W base sp held 29 v d p) (hw : ∀ n ∈ d.weights Try.prog 29, n ≤ 140737488351232) :
    ∃ (C : S29) (A1 A8 A9 A10 A11 : Option Addr) (c1 c8 c9 c10 c11 : Nat), v.cells.toList = [.int .i64 C.f0, .slice A1 C.f1.length c1, .int .i64 C.f2, .int .i64 C.f3, .int .i64 C.f4, .int .i64 C.f5, .int .i64 C.f6, .int .i64 C.f7, .slice A8 C.f8.length c8, .slice A9 C.f9.length c9, .slice A10 C.f10.length c10, .slice A11 C.f11.length c11] ∧ CfgIn W C A1 A8 A9 A10 A11 c1 c8 c9 c10 c11 ∧ CfgOk C ∧ SzOk C ∧ (cfgNums C).length ≤ Rows.uptoBulk d := by
  obtain ⟨C, hK, hG, hM⟩ := oCfgM.trod h hw
  obtain ⟨A1, c1, A8, c8, A9, c9, A10, c10, A11, c11, e, l1, g1, l8, g8, l9, g9, l10, g10, l11, g11⟩ := k29_open hK
  exact ⟨C, A1, A8, A9, A10, A11, c1, c8, c9, c10, c11, e, ⟨⟨l1, g1⟩, ⟨l8, g8⟩, ⟨l9, g9⟩, ⟨l10, g10⟩, l11, g11⟩, hG.1, hG.2, hM⟩
end Go.Proofs.Ytehbabkgaecoaaa
