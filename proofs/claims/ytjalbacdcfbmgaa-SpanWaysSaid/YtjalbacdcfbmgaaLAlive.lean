-- Written by xprint.py, a program of this work, round the kit's print.
/- Of two points there is one road, of one point none. -/
import Derived.Test.YtjalbacdcfbmgaaPx0
import Derived.Test.YtjalbacdcfbmgaaPx6
import Derived.Test.YtjalbacdcfbmgaaLRoads
namespace Go.Proofs.Ytjalbacdcfbmgaa.P
open Go.RowKit Go.Proofs.YtjalbacdcfbmgaaW.PrintWords Go.Proofs.YtjalbacdcfbmgaaW.PrintLast Go.Proofs.YtjalbacdcfbmgaaW.PrintMore
attribute [local go_sem] max2_int min2_int max_two min_two max_three min_three max_four min_four   -- for this text's walks alone
attribute [local go_sem] add64_run carryOk_zero   -- for this text's walks alone
set_option linter.unusedVariables false
set_option linter.unusedSimpArgs false

theorem roads_one (p : S36) : roads [p] = [] := by
  unfold roads sortedRoads allRoads
  simp [rowsFrom, kruskal]
theorem roads_two (p q : S36) : roads [p, q] = [road [p, q] 0 1] := by
  unfold roads sortedRoads allRoads
  have h : rowsFrom [p, q] 0 [p, q].length = [road [p, q] 0 1] := by simp [rowsFrom, List.range'_succ]
  rw [h, List.mergeSort_singleton]
  have e0 : rd (idG 2) (road [p, q] 0 1).f0 = 0 := rfl
  have e1 : rd (idG 2) (road [p, q] 0 1).f1 = 1 := rfl
  show kruskal [road [p, q] 0 1] (idG 2) [] = _
  simp only [kruskal]
  rw [e0, e1, if_neg (by decide)]
  rfl
theorem alive_val : Ev (fun k => croftlaw42_alive.f k) true := by
  have w0 : wf36 ⟨0, 0, 0, ⟨#[]⟩⟩ := ⟨by decide, by decide, by decide, by decide⟩
  have w1 : wf36 ⟨0, 3, 0, ⟨#[]⟩⟩ := ⟨by decide, by decide, by decide, by decide⟩
  have h1 := span_Roads_val (l := [(⟨0, 0, 0, ⟨#[]⟩⟩ : S36), ⟨0, 3, 0, ⟨#[]⟩⟩]) (by intro x hx; simp at hx; rcases hx with rfl | rfl <;> assumption) (by simp)
  have h2 := span_Roads_val (l := [(⟨0, 0, 0, ⟨#[]⟩⟩ : S36)]) (by intro x hx; simp at hx; subst hx; assumption) (by simp)
  rw [roads_two] at h1
  rw [roads_one] at h2
  unfold croftlaw42_alive.f
  refine Ev.bind h1 (Ev.bind h2 ?_)
  exact Ev.now true

end Go.Proofs.Ytjalbacdcfbmgaa.P
