-- Written by xprint.py, a program of this work, round the kit's print.
/- How an argument that is a slice of structs comes in: its reading, in the print's words. -/
import Derived.Test.YtjehhfhkbboamaaPx0
import Derived.Deep.Slices
import Derived.ProofKit
import Derived.ChangeArms
namespace Go.Proofs.Ytjehhfhkbboamaa.P
open Go.RowKit Go.Proofs.YtjehhfhkbboamaaW.PrintWords Go.Proofs.YtjehhfhkbboamaaW.PrintLast Go.Proofs.YtjehhfhkbboamaaW.PrintMore
attribute [local go_sem] max2_int min2_int max_two min_two max_three min_three max_four min_four   -- for this text's walks alone
attribute [local go_sem] add64_run carryOk_zero   -- for this text's walks alone
set_option linter.unusedVariables false
set_option linter.unusedSimpArgs false

open Go.ChangeShapes Go.WideShapes Go.Deep
/-- Whatever reads as type t is of kind d, and meets wf. -/
def Opens {α H : Type} (enc : TypeId × Value → H) (P : Program) (W : World) (base : Nat) (t : TypeId) (d : Kd α) (wf : α → Prop) : Prop :=
  ∀ fuel cs r, DataW.trod enc P W base (fun _ => true) true fuel t cs = some r → ∃ x, d.K W x cs ∧ wf x
section
variable {H : Type} {enc : TypeId × Value → H} {P : Program} {W : World} {base : Nat}
theorem opens_int {t : TypeId} {k : IntKind} (ht : P.underlying t = some (.int k)) : Opens enc P W base t (Kd.int k) (fun x => (Lit.int k x).wf = true) := by
  intro fuel cs r h
  cases fuel with
  | zero => simp [DataW.trod] at h
  | succ n =>
    obtain ⟨x, rfl, _, hw⟩ := DataW.trod_int ht h
    exact ⟨x, rfl, hw⟩
theorem opens_string {t : TypeId} (ht : P.underlying t = some .string) : Opens enc P W base t Kd.string (fun x => x.size ≤ maxLen) := by
  intro fuel cs r h
  cases fuel with
  | zero => simp [DataW.trod] at h
  | succ n =>
    obtain ⟨x, rfl, _, hw⟩ := DataW.trod_string ht h
    exact ⟨x, rfl, hw⟩
theorem mapM_each {α β : Type} {f : α → Option β} : ∀ {l : List α} {r : List β}, l.mapM f = some r → ∀ x ∈ l, ∃ y, f x = some y := by
  intro l
  induction l with
  | nil => intro r _ x hx; simp at hx
  | cons a l ih =>
    intro r h x hx
    rw [List.mapM_cons] at h
    obtain ⟨y, hy, h2⟩ := Option.bind_eq_some_iff.1 h
    obtain ⟨ys, hys, _⟩ := Option.bind_eq_some_iff.1 h2
    rcases List.mem_cons.1 hx with rfl | hx
    · exact ⟨y, hy⟩
    · exact ih hys x hx
theorem trod_fields {t : TypeId} {fs : Array Field} {fuel : Nat} {cs : List Value} {r : DataW H × List MemPlace} (ht : P.underlying t = some (.struct fs)) (h : DataW.trod enc P W base (fun _ => true) true fuel t cs = some r) :
    cs.length = P.cellsOf t ∧ ∃ n, ∀ f ∈ fs.toList, ∃ y, DataW.trod enc P W base (fun _ => true) true n f.type ((cs.drop f.offset).take (P.cellsOf f.type)) = some y := by
  cases fuel with
  | zero => simp [DataW.trod] at h
  | succ n =>
    unfold DataW.trod at h
    rw [ht] at h
    simp only at h
    by_cases hl : cs.length = P.cellsOf t
    · rw [if_pos hl] at h
      obtain ⟨xs, hxs, _⟩ := Option.map_eq_some_iff.1 h
      exact ⟨hl, n, mapM_each hxs⟩
    · rw [if_neg hl] at h
      simp at h
theorem opens_rows {α : Type} [Inhabited α] {d : Kd α} {wf : α → Prop} {t e : TypeId} (ht : P.underlying t = some (.slice e)) (hs : P.cellsOf e = d.sz) (O : Opens enc P W base e d wf) {a : Option Addr} {len cap : Nat} {D : DataW H} {p : List MemPlace}
    (h : DataW.Trod enc P W base (fun _ => true) true t (.slice a len cap) D p) : ∃ l : List α, l.length = len ∧ len ≤ cap ∧ len ≤ 9223372036854775807 ∧ d.C W a len l ∧ ∀ x ∈ l, wf x := by
  obtain ⟨fuel, hf⟩ := h
  rcases open_slice ht hf with ⟨hcs, _⟩ | ⟨x, l', c', m, n, D', Pl, hcs, _, hl, hm, hmm, _, hel⟩
  · simp [Value.cells] at hcs
    obtain ⟨rfl, rfl, rfl⟩ := hcs
    exact ⟨[], rfl, Nat.le_refl _, by omega, Kd.C_nil d W, fun x hx => by simp at hx⟩
  · simp [Value.cells] at hcs
    obtain ⟨rfl, rfl, rfl⟩ := hcs
    have hm' : len ≤ m := by rw [hmm]; simp; exact hl
    have hmx : len ≤ 9223372036854775807 := by simp only [maxLen] at hm; omega
    have key : ∀ i, i < len → ∃ y : α, ∃ cs', W.cells? base (x.add (i * P.cellsOf e)) (P.cellsOf e) = some cs' ∧ d.K W y cs' ∧ wf y := by
      intro i hi
      obtain ⟨cs', h1, h2⟩ := hel i (by omega)
      obtain ⟨y, h3, h4⟩ := O _ _ _ h2
      exact ⟨y, cs', h1, h3, h4⟩
    obtain ⟨f, hfn⟩ := choose_lt key
    refine ⟨(List.range len).map f, by simp, hl, hmx, ⟨by simp, hmx, fun _ => ⟨x, rfl, fun j q hj => ?_⟩⟩, fun y hy => ?_⟩
    · have hjl : j < len := by
        have := (List.getElem?_eq_some_iff.1 hj).1
        simpa using this
      have hq : q = f j := by
        have := (List.getElem?_eq_some_iff.1 hj).2
        simpa using this.symm
      subst hq
      obtain ⟨cs', h1, h2, _⟩ := hfn j hjl
      refine ⟨cs', d.K_len h2, h2, fun i u hu => ?_⟩
      have hi : i < d.sz := by rw [← d.K_len h2]; exact (List.getElem?_eq_some_iff.1 hu).1
      have h4 := (World.cells?_some h1).2.2 i (by rw [hs]; exact hi)
      rw [hu, hs, Go.Deep.add_add] at h4
      exact h4
    · obtain ⟨j, hj, rfl⟩ := List.mem_map.1 hy
      exact (hfn j (List.mem_range.1 hj)).choose_spec.2.2
end

end Go.Proofs.Ytjehhfhkbboamaa.P
