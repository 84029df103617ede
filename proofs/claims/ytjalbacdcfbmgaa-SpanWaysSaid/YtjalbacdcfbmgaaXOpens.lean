-- Written by xprint.py, a program of this work, round the kit's print.
/- How the structs of this seat's laws come in. -/
import Derived.Test.YtjalbacdcfbmgaaPx0
import Derived.Test.YtjalbacdcfbmgaaXOpen
namespace Go.Proofs.Ytjalbacdcfbmgaa.P
open Go.RowKit Go.Proofs.YtjalbacdcfbmgaaW.PrintWords Go.Proofs.YtjalbacdcfbmgaaW.PrintLast Go.Proofs.YtjalbacdcfbmgaaW.PrintMore
attribute [local go_sem] max2_int min2_int max_two min_two max_three min_three max_four min_four   -- for this text's walks alone
attribute [local go_sem] add64_run carryOk_zero   -- for this text's walks alone
set_option linter.unusedVariables false
set_option linter.unusedSimpArgs false

def wf29 (x : S29) : Prop := (Lit.int .u64 x.f0).wf = true ∧ (Lit.int .u64 x.f1).wf = true
instance : Inhabited S29 := ⟨z29⟩
theorem opens29 {H : Type} {enc : TypeId × Value → H} {W : World} {base : Nat} : Opens enc Try.prog W base 29 k29 wf29 := by
  intro fuel cs r h
  obtain ⟨hl, n, hf⟩ := trod_fields Try.underlying29 h
  have hl2 : cs.length = 2 := hl.trans (by kernel_rfl)
  match cs, hl2 with
  | [c0, c1], _ =>
  simp only [List.forall_mem_cons, show Try.prog.cellsOf 27 = 1 from by kernel_rfl, List.drop_zero, List.drop_succ_cons, List.take_succ_cons, List.take_zero] at hf
  obtain ⟨⟨y0, h0⟩, ⟨y1, h1⟩, _⟩ := hf
  obtain ⟨x0, e0, w0⟩ := opens_int Try.underlying27 _ _ _ h0
  have e0' : _ = _ := e0
  obtain ⟨x1, e1, w1⟩ := opens_int Try.underlying27 _ _ _ h1
  have e1' : _ = _ := e1
  simp only [List.cons.injEq, and_true] at e0' e1'
  refine ⟨⟨x0, x1⟩, ?_, w0, w1⟩
  have hk := k29_mk W (⟨x0, x1⟩ : S29)
  simp_all
def wf31 (x : S31) : Prop := (Lit.int .i64 x.f0).wf = true ∧ (Lit.int .i64 x.f1).wf = true ∧ wf29 x.f2
instance : Inhabited S31 := ⟨z31⟩
theorem opens31 {H : Type} {enc : TypeId × Value → H} {W : World} {base : Nat} : Opens enc Try.prog W base 31 k31 wf31 := by
  intro fuel cs r h
  obtain ⟨hl, n, hf⟩ := trod_fields Try.underlying31 h
  have hl2 : cs.length = 4 := hl.trans (by kernel_rfl)
  match cs, hl2 with
  | [c0, c1, c2, c3], _ =>
  simp only [List.forall_mem_cons, show Try.prog.cellsOf 3 = 1 from by kernel_rfl, show Try.prog.cellsOf 29 = 2 from by kernel_rfl, List.drop_zero, List.drop_succ_cons, List.take_succ_cons, List.take_zero] at hf
  obtain ⟨⟨y0, h0⟩, ⟨y1, h1⟩, ⟨y2, h2⟩, _⟩ := hf
  obtain ⟨x0, e0, w0⟩ := opens_int Try.underlying3 _ _ _ h0
  have e0' : _ = _ := e0
  obtain ⟨x1, e1, w1⟩ := opens_int Try.underlying3 _ _ _ h1
  have e1' : _ = _ := e1
  obtain ⟨x2, e2, w2⟩ := opens29 _ _ _ h2
  have e2' := k29_open e2
  simp only [List.cons.injEq, and_true] at e0' e1' e2'
  refine ⟨⟨x0, x1, x2⟩, ?_, w0, w1, w2⟩
  have hk := k31_mk W (⟨x0, x1, x2⟩ : S31)
  simp_all
def wf36 (x : S36) : Prop := (Lit.int .i64 x.f0).wf = true ∧ (Lit.int .u32 x.f1).wf = true ∧ (Lit.int .u32 x.f2).wf = true ∧ x.f3.size ≤ maxLen
instance : Inhabited S36 := ⟨z36⟩
theorem opens36 {H : Type} {enc : TypeId × Value → H} {W : World} {base : Nat} : Opens enc Try.prog W base 36 k36 wf36 := by
  intro fuel cs r h
  obtain ⟨hl, n, hf⟩ := trod_fields Try.underlying36 h
  have hl2 : cs.length = 4 := hl.trans (by kernel_rfl)
  match cs, hl2 with
  | [c0, c1, c2, c3], _ =>
  simp only [List.forall_mem_cons, show Try.prog.cellsOf 3 = 1 from by kernel_rfl, show Try.prog.cellsOf 9 = 1 from by kernel_rfl, show Try.prog.cellsOf 34 = 1 from by kernel_rfl, List.drop_zero, List.drop_succ_cons, List.take_succ_cons, List.take_zero] at hf
  obtain ⟨⟨y0, h0⟩, ⟨y1, h1⟩, ⟨y2, h2⟩, ⟨y3, h3⟩, _⟩ := hf
  obtain ⟨x0, e0, w0⟩ := opens_int Try.underlying3 _ _ _ h0
  have e0' : _ = _ := e0
  obtain ⟨x1, e1, w1⟩ := opens_int Try.underlying34 _ _ _ h1
  have e1' : _ = _ := e1
  obtain ⟨x2, e2, w2⟩ := opens_int Try.underlying34 _ _ _ h2
  have e2' : _ = _ := e2
  obtain ⟨x3, e3, w3⟩ := opens_string Try.underlying9 _ _ _ h3
  have e3' : _ = _ := e3
  simp only [List.cons.injEq, and_true] at e0' e1' e2' e3'
  refine ⟨⟨x0, x1, x2, x3⟩, ?_, w0, w1, w2, w3⟩
  have hk := k36_mk W (⟨x0, x1, x2, x3⟩ : S36)
  simp_all
end Go.Proofs.Ytjalbacdcfbmgaa.P
