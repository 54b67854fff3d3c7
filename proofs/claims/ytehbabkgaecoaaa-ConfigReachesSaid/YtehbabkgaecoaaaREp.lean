/- Which partitions reach which: the plain side. -/
import Derived.Test.YtehbabkgaecoaaaPT
namespace Go.Proofs.Ytehbabkgaecoaaa
set_option linter.unusedVariables false
set_option linter.unusedSimpArgs false
open Go.RowKit Go.Shelf Go.Proofs.YtehbabkgaecoaaaW.PrintWords

def okL (C : S29) (x : S61) : Bool := (partW C x.f0).2 && x.f1.all (fun n => (partW C n).2)
def toL (C : S29) (x : S61) : List Int := x.f1.map (fun n => (partW C n).1)
def fromL (C : S29) (x : S61) : Nat := (partW C x.f0).1.toNat
def nxStep (C : S29) (nx : List (List Int)) (x : S61) : List (List Int) := if okL C x = true then nx.set (fromL C x) (nx.getD (fromL C x) [] ++ toL C x) else nx
/-- Where links lead, of each partition. -/
def nxOf (C : S29) (L : List S61) : List (List Int) := L.foldl (nxStep C) (List.replicate C.f8.length [])
theorem part_bd {C : S29} {n : Int} (h : (partW C n).2 = true) : 0 ≤ (partW C n).1 ∧ (partW C n).1 < C.f8.length := by
  by_cases h0 : 0 ≤ n
  · cases hp : C.f10[n.toNat]? with
    | none => rw [partW, if_pos h0, hp] at h; cases h
    | some p =>
      rw [partW, if_pos h0, hp] at h ⊢
      have := of_decide_eq_true h
      show 0 ≤ p.f0 ∧ p.f0 < C.f8.length
      omega
  · rw [partW, if_neg h0] at h; cases h
def NxOk (C : S29) (nx : List (List Int)) (m : Nat) : Prop := nx.length = C.f8.length ∧ ∀ row ∈ nx, (∀ q ∈ row, 0 ≤ q ∧ q < C.f8.length) ∧ row.length ≤ m
theorem NxOk.step {C : S29} {nx : List (List Int)} {m : Nat} (h : NxOk C nx m) (x : S61) : NxOk C (nxStep C nx x) (m + x.f1.length) := by
  unfold nxStep
  split
  · rename_i ho
    unfold okL at ho
    simp only [Bool.and_eq_true, List.all_eq_true] at ho
    refine ⟨by rw [List.length_set]; exact h.1, fun row hr => ?_⟩
    rcases List.mem_or_eq_of_mem_set hr with hr | rfl
    · have := h.2 row hr; exact ⟨this.1, by omega⟩
    · have hold : (∀ q ∈ nx.getD (fromL C x) [], 0 ≤ q ∧ q < C.f8.length) ∧ (nx.getD (fromL C x) []).length ≤ m := by
        rw [List.getD_eq_getElem?_getD]
        cases hg : nx[fromL C x]? with
        | none => simp
        | some r => exact h.2 r (List.mem_of_getElem? hg)
      refine ⟨fun q hq => ?_, by have e : (toL C x).length = x.f1.length := by { simp [toL] }; rw [List.length_append, e]; have := hold.2; omega⟩
      rcases List.mem_append.1 hq with hq | hq
      · exact hold.1 q hq
      · obtain ⟨n, hn, rfl⟩ := List.mem_map.1 hq
        exact part_bd (ho.2 n hn)
  · exact ⟨h.1, fun row hr => by have := h.2 row hr; exact ⟨this.1, by omega⟩⟩
theorem nx_ok (C : S29) (L : List S61) : NxOk C (nxOf C L) (L.flatMap (fun x => x.f1)).length := by
  have key : ∀ (L : List S61) nx m, NxOk C nx m → NxOk C (L.foldl (nxStep C) nx) (m + (L.flatMap (fun x => x.f1)).length) := by
    intro L
    induction L with
    | nil => intro nx m h; simpa using h
    | cons x L ih =>
      intro nx m h
      have := ih _ _ (h.step x)
      rw [List.foldl_cons, List.flatMap_cons, List.length_append]
      rwa [Nat.add_assoc] at this
  have := key L (List.replicate C.f8.length []) 0 ⟨by simp, fun row hr => by rw [(List.mem_replicate.1 hr).2]; simp⟩
  rwa [Nat.zero_add] at this
/-- What comes of i by one step more, as often as one likes. -/
inductive Rt (nx : List (List Int)) (i : Nat) : Nat → Prop
  | refl : Rt nx i i
  | step {p : Nat} {q : Int} : Rt nx i p → q ∈ nx.getD p [] → Rt nx i q.toNat
structure Bfs (nx : List (List Int)) (i : Nat) (seen : List Bool) (td : List Int) (m : Nat) : Prop where
  len : seen.length = nx.length
  at0 : seen.getD i false = true
  sound : ∀ j, seen.getD j false = true → Rt nx i j
  todo : ∀ q ∈ td, 0 ≤ q ∧ q < nx.length ∧ seen.getD q.toNat false = true
  closed : ∀ p : Nat, seen.getD p false = true → (p : Int) ∉ td → ∀ q ∈ nx.getD p [], seen.getD q.toNat false = true
  meas : td.length + seen.count false = m
structure BfsIn (nx : List (List Int)) (i p k : Nat) (seen : List Bool) (td : List Int) (m : Nat) : Prop where
  len : seen.length = nx.length
  at0 : seen.getD i false = true
  sound : ∀ j, seen.getD j false = true → Rt nx i j
  todo : ∀ q ∈ td, 0 ≤ q ∧ q < nx.length ∧ seen.getD q.toNat false = true
  closed : ∀ p' : Nat, seen.getD p' false = true → (p' : Int) ∉ td → (p' ≠ p → ∀ q ∈ nx.getD p' [], seen.getD q.toNat false = true) ∧ (p' = p → ∀ q ∈ (nx.getD p []).take k, seen.getD q.toNat false = true)
  here : seen.getD p false = true
  meas : td.length + seen.count false = m
theorem getD_set {l : List Bool} {a b : Nat} (ha : a < l.length) : (l.set a true).getD b false = if b = a then true else l.getD b false := by
  rw [List.getD_eq_getElem?_getD, List.getD_eq_getElem?_getD, List.getElem?_set]
  by_cases h : a = b
  · subst h; simp [ha]
  · rw [if_neg h, if_neg (fun e => h e.symm)]
theorem count_set {l : List Bool} {a : Nat} (ha : l.getD a true = false) : (l.set a true).count false + 1 = l.count false := by
  induction l generalizing a with
  | nil => simp at ha
  | cons x l ih =>
    cases a with
    | zero => simp at ha; subst ha; simp
    | succ a =>
      have := ih (a := a) (by simpa using ha)
      rw [List.set_cons_succ, List.count_cons, List.count_cons]
      omega
theorem Bfs.start {nx : List (List Int)} {i : Nat} (hi : i < nx.length) : Bfs nx i ((List.replicate nx.length false).set i true) [(i : Int)] (nx.length) := by
  have hg : ∀ j, ((List.replicate nx.length false).set i true).getD j false = if j = i then true else false := fun j => by
    rw [getD_set (by simpa using hi)]
    congr 1
    rw [List.getD_eq_getElem?_getD, List.getElem?_replicate]
    split <;> rfl
  refine ⟨by simp, by rw [hg, if_pos rfl], fun j hj => ?_, fun q hq => ?_, fun p hp hn => ?_, ?_⟩
  · rw [hg] at hj
    by_cases h : j = i
    · subst h; exact .refl
    · rw [if_neg h] at hj; cases hj
  · obtain rfl := List.mem_singleton.1 hq
    refine ⟨by omega, by omega, ?_⟩
    rw [hg, if_pos (by omega)]
  · rw [hg] at hp
    by_cases h : p = i
    · subst h; exact absurd (List.mem_singleton.2 rfl) hn
    · rw [if_neg h] at hp; cases hp
  · have := count_set (l := List.replicate nx.length false) (a := i) (by rw [List.getD_eq_getElem?_getD, List.getElem?_replicate, if_pos hi]; rfl)
    simp only [List.count_replicate_self, List.length_singleton] at this ⊢
    omega
theorem Bfs.pop {nx : List (List Int)} {i m : Nat} {seen : List Bool} {p : Int} {td : List Int} (h : Bfs nx i seen (p :: td) m) : (0 ≤ p ∧ p < nx.length) ∧ 0 < m ∧ BfsIn nx i p.toNat 0 seen td (m - 1) := by
  obtain ⟨h1, h2, h3, h4, h5, h6⟩ := h
  have hp := h4 p (by simp)
  rw [List.length_cons] at h6
  refine ⟨⟨hp.1, hp.2.1⟩, by omega, h1, h2, h3, fun q hq => h4 q (by simp [hq]), fun p' hs hn => ⟨fun hne => h5 p' hs ?_, fun _ q hq => by simp at hq⟩, hp.2.2, by omega⟩
  intro hm
  rcases List.mem_cons.1 hm with he | he
  · exact hne (by omega)
  · exact hn he
theorem BfsIn.skip {nx : List (List Int)} {i p k m : Nat} {seen : List Bool} {td : List Int} {q : Int} (h : BfsIn nx i p k seen td m) (hq : (nx.getD p [])[k]? = some q) (hs : seen.getD q.toNat false = true) : BfsIn nx i p (k + 1) seen td m := by
  obtain ⟨h1, h2, h3, h4, h5, h6, h7⟩ := h
  refine ⟨h1, h2, h3, h4, fun p' hp hn => ⟨(h5 p' hp hn).1, fun he x hx => ?_⟩, h6, h7⟩
  rw [List.take_add_one, hq] at hx
  rcases List.mem_append.1 hx with hx | hx
  · exact (h5 p' hp hn).2 he x hx
  · have : x = q := by simpa using hx
    subst this; exact hs
theorem BfsIn.push {nx : List (List Int)} {i p k m : Nat} {seen : List Bool} {td : List Int} {q : Int} (h : BfsIn nx i p k seen td m) (hq : (nx.getD p [])[k]? = some q) (hs : seen.getD q.toNat false = false) (h0 : 0 ≤ q) (hl : q < nx.length) : BfsIn nx i p (k + 1) (seen.set q.toNat true) (td ++ [q]) m := by
  obtain ⟨h1, h2, h3, h4, h5, h6, h7⟩ := h
  have hlt : q.toNat < seen.length := by omega
  have hg : ∀ j, (seen.set q.toNat true).getD j false = if j = q.toNat then true else seen.getD j false := fun j => getD_set hlt
  have hmono : ∀ j, seen.getD j false = true → (seen.set q.toNat true).getD j false = true := fun j hj => by rw [hg]; split <;> simp_all
  have hmem : q ∈ nx.getD p [] := List.mem_of_getElem? hq
  refine ⟨by rw [List.length_set]; exact h1, hmono _ h2, fun j hj => ?_, fun x hx => ?_, fun p' hp hn => ?_, hmono _ h6, ?_⟩
  · rw [hg] at hj
    by_cases he : j = q.toNat
    · subst he; exact .step (h3 p h6) hmem
    · rw [if_neg he] at hj; exact h3 j hj
  · rcases List.mem_append.1 hx with hx | hx
    · have := h4 x hx; exact ⟨this.1, this.2.1, hmono _ this.2.2⟩
    · obtain rfl := List.mem_singleton.1 hx
      exact ⟨h0, hl, by rw [hg, if_pos rfl]⟩
  · have hn1 : (p' : Int) ∉ td := fun h => hn (by simp [h])
    have hn2 : p' ≠ q.toNat := fun h => hn (by rw [List.mem_append, List.mem_singleton]; right; omega)
    rw [hg, if_neg hn2] at hp
    refine ⟨fun hne x hx => hmono _ ((h5 p' hp hn1).1 hne x hx), fun he x hx => ?_⟩
    rw [List.take_add_one, hq] at hx
    rcases List.mem_append.1 hx with hx | hx
    · exact hmono _ ((h5 p' hp hn1).2 he x hx)
    · have : x = q := by simpa using hx
      subst this; rw [hg, if_pos rfl]
  · have := count_set (l := seen) (a := q.toNat) (by
      rw [List.getD_eq_getElem?_getD, List.getElem?_eq_getElem hlt] at hs ⊢
      exact hs)
    rw [List.length_append, List.length_singleton]
    omega
theorem BfsIn.done {nx : List (List Int)} {i p k m : Nat} {seen : List Bool} {td : List Int} (h : BfsIn nx i p k seen td m) (hk : (nx.getD p []).length ≤ k) : Bfs nx i seen td m := by
  obtain ⟨h1, h2, h3, h4, h5, h6, h7⟩ := h
  refine ⟨h1, h2, h3, h4, fun p' hp hn q hq => ?_, h7⟩
  by_cases he : p' = p
  · exact (h5 p' hp hn).2 he q (by rw [List.take_of_length_le hk, ← he]; exact hq)
  · exact (h5 p' hp hn).1 he q hq
theorem Bfs.final {nx : List (List Int)} {i m : Nat} {seen : List Bool} (h : Bfs nx i seen [] m) (j : Nat) : seen.getD j false = true ↔ Rt nx i j := by
  refine ⟨h.sound j, fun hr => ?_⟩
  induction hr with
  | refl => exact h.at0
  | step _ hq ih => exact h.closed _ ih (by simp) _ hq
/-- What Reach answers: a table that says so. -/
def ReachOk (C : S29) (M : List (List Bool)) : Prop := M.length = C.f8.length ∧ ∀ i, i < C.f8.length → (M.getD i []).length = C.f8.length ∧ ∀ j, (M.getD i []).getD j false = true ↔ Rt (nxOf C C.f11) i j
end Go.Proofs.Ytehbabkgaecoaaa
