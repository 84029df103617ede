-- Written by xprint.py, a program of this work, round the kit's print.
/- How the structs of this seat's laws come in. -/
import Derived.Test.YtjehhfhkbboamaaPx0
import Derived.Test.YtjehhfhkbboamaaXOpen
namespace Go.Proofs.Ytjehhfhkbboamaa.P
open Go.RowKit Go.Proofs.YtjehhfhkbboamaaW.PrintWords Go.Proofs.YtjehhfhkbboamaaW.PrintLast Go.Proofs.YtjehhfhkbboamaaW.PrintMore
attribute [local go_sem] max2_int min2_int max_two min_two max_three min_three max_four min_four   -- for this text's walks alone
attribute [local go_sem] add64_run carryOk_zero   -- for this text's walks alone
set_option linter.unusedVariables false
set_option linter.unusedSimpArgs false

def wf28 (x : S28) : Prop := (Lit.int .u32 x.f0).wf = true ∧ (Lit.int .u32 x.f1).wf = true ∧ (Lit.int .u32 x.f2).wf = true ∧ (Lit.int .u32 x.f3).wf = true
instance : Inhabited S28 := ⟨z28⟩
theorem opens28 {H : Type} {enc : TypeId × Value → H} {W : World} {base : Nat} : Opens enc Try.prog W base 28 k28 wf28 := by
  intro fuel cs r h
  obtain ⟨hl, n, hf⟩ := trod_fields Try.underlying28 h
  have hl2 : cs.length = 4 := hl.trans (by kernel_rfl)
  match cs, hl2 with
  | [c0, c1, c2, c3], _ =>
  simp only [List.forall_mem_cons, show Try.prog.cellsOf 25 = 1 from by kernel_rfl, List.drop_zero, List.drop_succ_cons, List.take_succ_cons, List.take_zero] at hf
  obtain ⟨⟨y0, h0⟩, ⟨y1, h1⟩, ⟨y2, h2⟩, ⟨y3, h3⟩, _⟩ := hf
  obtain ⟨x0, e0, w0⟩ := opens_int Try.underlying25 _ _ _ h0
  have e0' : _ = _ := e0
  obtain ⟨x1, e1, w1⟩ := opens_int Try.underlying25 _ _ _ h1
  have e1' : _ = _ := e1
  obtain ⟨x2, e2, w2⟩ := opens_int Try.underlying25 _ _ _ h2
  have e2' : _ = _ := e2
  obtain ⟨x3, e3, w3⟩ := opens_int Try.underlying25 _ _ _ h3
  have e3' : _ = _ := e3
  simp only [List.cons.injEq, and_true] at e0' e1' e2' e3'
  refine ⟨⟨x0, x1, x2, x3⟩, ?_, w0, w1, w2, w3⟩
  have hk := k28_mk W (⟨x0, x1, x2, x3⟩ : S28)
  simp_all
theorem opens_agg28 {H : Type} {enc : TypeId × Value → H} {W : World} {base base2 : Nat} {v : Value} {D : DataW H} {p : List MemPlace} (hval : Value.okWide Try.prog W .any base 28 v) (h : DataW.Trod enc Try.prog W base2 (fun _ => true) true 28 v D p) : ∃ x : S28, v = .agg #[.int .u32 x.f0, .int .u32 x.f1, .int .u32 x.f2, .int .u32 x.f3] ∧ wf28 x := by
  obtain ⟨cs, rfl, hsz⟩ := Go.WideShapes.okWide_struct Try.underlying28 hval
  obtain ⟨fuel, hf⟩ := h
  obtain ⟨x, hk, hw⟩ := opens28 fuel cs.toList _ (by simpa [Value.cells] using hf)
  exact ⟨x, by rw [show cs = cs.toList.toArray from by simp, k28_open hk], hw⟩
end Go.Proofs.Ytjehhfhkbboamaa.P
