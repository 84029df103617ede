/- SweepAdds, over lists and numbers: windows that do not meet have as many places as each has, together; one within another one adds nothing. -/
import Derived.Test.YtjehhfhkbboamaaStSweepAdds
import Derived.Test.YtjehhfhkbboamaaLSweepB
namespace Go.Proofs.Ytjehhfhkbboamaa.Pure
open Go.RowKit Go.Proofs.YtjehhfhkbboamaaW.PrintWords Go.Proofs.YtjehhfhkbboamaaW.PrintLast Go.Proofs.YtjehhfhkbboamaaW.PrintMore
open Go.Proofs.Ytjehhfhkbboamaa.P
theorem full_two {a b : S28} (ha : empB a = false) (hb : empB b = false) : fullL [a, b] = [a, b] := by rw [fullL_keep ha, fullL_keep hb]; rfl
theorem unionV_congr {l m : List S28} (h : ∀ x y, hasAt l x y = hasAt m x y) : unionV l = unionV m := by unfold unionV; rw [area_congr h]
theorem adds_main (r0 r1 r2 r3 x s0 s1 s2 s3 : Int) (hr : okR ⟨r0, r1, r2, r3⟩) (hs : okR ⟨s0, s1, s2, s3⟩) (h0 : r0 ≤ x) (h1 : x < r2) (h2 : r1 ≤ r3) :
    Ev (fun k => croftlaw39_SweepAdds.j0 k x false r0 r1 r2 r3 s0 s1 s2 s3) true := by
  unfold okR at hr hs
  rw [BIG_int] at hr hs
  simp only at hr hs
  have hx : (x + 1) % 4294967296 = x + 1 := by omega
  have okA : okR ⟨r0, r1, x, r3⟩ := by unfold okR; rw [BIG_int]; simp only; omega
  have okB : okR ⟨x + 1, r1, r2, r3⟩ := by unfold okR; rw [BIG_int]; simp only; omega
  have okRr : okR ⟨r0, r1, r2, r3⟩ := by unfold okR; rw [BIG_int]; simp only; omega
  have okC : okR ⟨mx r0 s0, mx r1 s1, mn r2 s2, mn r3 s3⟩ := by unfold okR mx mn; rw [BIG_int]; simp only; repeat' split; all_goals omega
  have eA : empB ⟨r0, r1, x, r3⟩ = false := by unfold empB; simp; omega
  have eB : empB ⟨x + 1, r1, r2, r3⟩ = false := by unfold empB; simp; omega
  have eR : empB ⟨r0, r1, r2, r3⟩ = false := by unfold empB; simp; omega
  have fAB := full_two eA eB
  have fR : fullL [(⟨r0, r1, r2, r3⟩ : S28)] = [⟨r0, r1, r2, r3⟩] := by rw [fullL_keep eR]; rfl
  have u1 := union_val [(⟨r0, r1, x, r3⟩ : S28), ⟨x + 1, r1, r2, r3⟩] (by simp) (by intro a ha; simp only [List.mem_cons, List.not_mem_nil, or_false] at ha; rcases ha with rfl | rfl <;> assumption)
  have u2 := union_val [(⟨r0, r1, r2, r3⟩ : S28)] (by simp) (by intro a ha; simp only [List.mem_cons, List.not_mem_nil, or_false] at ha; subst ha; exact okRr)
  have u3 := union_val [(⟨mx r0 s0, mx r1 s1, mn r2 s2, mn r3 s3⟩ : S28), ⟨r0, r1, r2, r3⟩] (by simp) (by intro a ha; simp only [List.mem_cons, List.not_mem_nil, or_false] at ha; rcases ha with rfl | rfl <;> assumption)
  rw [fAB] at u1
  rw [fR] at u2
  have hasRR : ∀ X Y, hasAt [(⟨r0, r1, r2, r3⟩ : S28)] X Y = true ↔ r0 ≤ X ∧ X ≤ r2 ∧ r1 ≤ Y ∧ Y ≤ r3 := by
    intro X Y
    rw [hasAt_iff]
    simp
  have e1 : unionV [(⟨r0, r1, x, r3⟩ : S28), ⟨x + 1, r1, r2, r3⟩] = unionV [(⟨r0, r1, r2, r3⟩ : S28)] := by
    refine unionV_congr fun X Y => ?_
    rw [Bool.eq_iff_iff, hasRR, hasAt_iff]
    simp only [List.mem_cons, List.not_mem_nil, or_false]
    constructor
    · rintro ⟨a, rfl | rfl, h⟩ <;> (simp only at h; omega)
    · intro h
      by_cases hX : X ≤ x
      · exact ⟨_, .inl rfl, by simp only; omega⟩
      · exact ⟨_, .inr rfl, by simp only; omega⟩
  have e3 : unionV (fullL [(⟨mx r0 s0, mx r1 s1, mn r2 s2, mn r3 s3⟩ : S28), ⟨r0, r1, r2, r3⟩]) = unionV [(⟨r0, r1, r2, r3⟩ : S28)] := by
    refine unionV_congr fun X Y => ?_
    rw [Bool.eq_iff_iff, hasRR, hasAt_iff]
    have hm := le_mx r0 s0
    have hm1 := le_mx r1 s1
    have hm2 : mn r2 s2 ≤ r2 := by unfold mn; split <;> omega
    have hm3 : mn r3 s3 ≤ r3 := by unfold mn; split <;> omega
    constructor
    · rintro ⟨a, ha, h⟩
      have ha' := fullL_mem ha
      simp only [List.mem_cons, List.not_mem_nil, or_false] at ha'
      rcases ha' with rfl | rfl
      · simp only at h; omega
      · simp only at h; omega
    · intro h
      refine ⟨⟨r0, r1, r2, r3⟩, List.mem_filter.2 ⟨by simp, by rw [eR]; rfl⟩, h⟩
  rw [e1] at u1
  rw [e3] at u3
  have hp := pairs_val [(⟨r0, r1, x, r3⟩ : S28), ⟨x + 1, r1, r2, r3⟩] (by simp)
  have ep : pairsFrom [(⟨r0, r1, x, r3⟩ : S28), ⟨x + 1, r1, r2, r3⟩] 0 = [] := by
    have hmeet : meetsB (⟨r0, r1, x, r3⟩ : S28) ⟨x + 1, r1, r2, r3⟩ = false := by
      have : empB (cutR (⟨r0, r1, x, r3⟩ : S28) ⟨x + 1, r1, r2, r3⟩) = true := by
        unfold empB cutR mx mn
        simp only [Bool.or_eq_true, decide_eq_true_eq]
        refine .inl ?_
        repeat' split
        all_goals omega
      unfold meetsB
      rw [this]
      simp
    have r0' : rd_T28 [(⟨r0, r1, x, r3⟩ : S28), ⟨x + 1, r1, r2, r3⟩] ((0 : Nat) : Int) = ⟨r0, r1, x, r3⟩ := rfl
    have r1' : rd_T28 [(⟨r0, r1, x, r3⟩ : S28), ⟨x + 1, r1, r2, r3⟩] ((1 : Nat) : Int) = ⟨x + 1, r1, r2, r3⟩ := rfl
    unfold pairsFrom
    rw [show [(⟨r0, r1, x, r3⟩ : S28), ⟨x + 1, r1, r2, r3⟩].length - 0 = 2 from rfl, show List.range' 0 2 = [0, 1] from rfl]
    simp only [List.flatMap_cons, List.flatMap_nil, List.append_nil]
    have p0 : pairRow [(⟨r0, r1, x, r3⟩ : S28), ⟨x + 1, r1, r2, r3⟩] 0 = [] := by
      unfold pairRow
      rw [show List.range' (0 + 1) ([(⟨r0, r1, x, r3⟩ : S28), ⟨x + 1, r1, r2, r3⟩].length - (0 + 1)) = [1] from rfl, List.filter_cons, r0', r1', hmeet]
      rfl
    have p1 : pairRow [(⟨r0, r1, x, r3⟩ : S28), ⟨x + 1, r1, r2, r3⟩] 1 = [] := rfl
    rw [p0, p1]
    rfl
  rw [ep] at hp
  have hd := depth_val [(⟨r0, r1, x, r3⟩ : S28), ⟨x + 1, r1, r2, r3⟩] (by simp)
  rw [fAB] at hd
  have ed : depthOf [(⟨r0, r1, x, r3⟩ : S28), ⟨x + 1, r1, r2, r3⟩] 0 [(⟨r0, r1, x, r3⟩ : S28), ⟨x + 1, r1, r2, r3⟩] = 1 := by
    obtain ⟨d1, d2, d3⟩ := depthOf_spec [(⟨r0, r1, x, r3⟩ : S28), ⟨x + 1, r1, r2, r3⟩] [(⟨r0, r1, x, r3⟩ : S28), ⟨x + 1, r1, r2, r3⟩] 0
    have hc : ∀ X Y, cnt [(⟨r0, r1, x, r3⟩ : S28), ⟨x + 1, r1, r2, r3⟩] X Y ≤ 1 := by
      intro X Y
      unfold cnt
      by_cases h1 : hasR (⟨r0, r1, x, r3⟩ : S28) X Y = true
      · have h2 : ¬ hasR (⟨x + 1, r1, r2, r3⟩ : S28) X Y = true := by
          rw [hasR_iff] at h1 ⊢
          simp only at h1 ⊢
          omega
        rw [List.filter_cons, if_pos h1, List.filter_cons, if_neg h2]
        simp
      · rw [List.filter_cons, if_neg h1]
        have := List.length_filter_le (fun a : S28 => hasR a X Y) [(⟨x + 1, r1, r2, r3⟩ : S28)]
        simp only [List.length_cons, List.length_nil] at this
        omega
    have h1 := d2 ⟨r0, r1, x, r3⟩ (by simp) ⟨r0, r1, x, r3⟩ (by simp)
    have h2 : 1 ≤ cnt [(⟨r0, r1, x, r3⟩ : S28), ⟨x + 1, r1, r2, r3⟩] r0 r1 := by
      unfold cnt
      have h3 : hasR (⟨r0, r1, x, r3⟩ : S28) r0 r1 = true := by rw [hasR_iff]; simp only; omega
      rw [List.filter_cons, if_pos h3, List.length_cons]
      omega
    simp only at h1
    rcases d3 with d3 | ⟨a, _, b, _, d3⟩
    · omega
    · have := hc a.f0 b.f1
      omega
  rw [ed] at hd
  refine Ev.step (f := fun k => (sweep_Union.f k [(⟨r0, r1, x, r3⟩ : S28), ⟨x + 1, r1, r2, r3⟩]).bind fun bt399 => ((sweep_Union.f k [(⟨r0, r1, r2, r3⟩ : S28)]).bind fun bt404 => ((sweep_Union.f k [(⟨mx r0 s0, mx r1 s1, mn r2 s2, mn r3 s3⟩ : S28), ⟨r0, r1, r2, r3⟩]).bind fun bt410 => (if bt399.1 = bt404.1 then (if (bt399.2 == bt404.2) = true then (if bt410.1 = bt404.1 then (if (bt410.2 == bt404.2) = true then ((sweep_Pairs.f k [(⟨r0, r1, x, r3⟩ : S28), ⟨x + 1, r1, r2, r3⟩]).bind fun t415 => (if (t415.length : Int) = 0 then ((sweep_Depth.f k [(⟨r0, r1, x, r3⟩ : S28), ⟨x + 1, r1, r2, r3⟩]).bind fun t421 => (some (t421 == 1))) else (some false))) else (some false)) else (some false)) else (some false)) else (some false))))) (fun k => ?_) ?_
  · simp only [croftlaw39_SweepAdds.j0]
    rw [if_neg (by simp), hx]
  · refine Ev.bind u1 (Ev.bind u2 (Ev.bind u3 ?_))
    simp only [if_true, beq_self_eq_true]
    refine Ev.bind hp ?_
    simp only [List.length_nil, Int.natCast_zero, if_true]
    exact Ev.bind hd (Ev.now _)
theorem SweepAdds : SweepAdds_Pure := by
  intro r x s hr hx hs
  have hor := okR_of hr
  have hos := okR_of hs
  have key : Ev (fun k => croftlaw39_SweepAdds.f k r.f0 r.f1 r.f2 r.f3 x s.f0 s.f1 s.f2 s.f3) true := by
    refine Ev.bind alive_val ?_
    simp only [if_true]
    by_cases h0 : r.f0 > x
    · simp only [if_pos h0]
      refine Ev.step (fun k => ?_) (Ev.now _)
      simp only [croftlaw39_SweepAdds.j0, if_true]
    · simp only [if_neg h0]
      by_cases h1 : x ≥ r.f2
      · simp only [if_pos h1]
        refine Ev.step (fun k => ?_) (Ev.now _)
        simp only [croftlaw39_SweepAdds.j0, if_true]
      · simp only [if_neg h1]
        by_cases h2 : r.f1 > r.f3
        · rw [decide_eq_true h2]
          refine Ev.step (fun k => ?_) (Ev.now _)
          simp only [croftlaw39_SweepAdds.j0, if_true]
        · rw [decide_eq_false h2]
          exact adds_main r.f0 r.f1 r.f2 r.f3 x s.f0 s.f1 s.f2 s.f3 hor hos (by omega) (by omega) (by omega)
  exact key.rounds
end Go.Proofs.Ytjehhfhkbboamaa.Pure
