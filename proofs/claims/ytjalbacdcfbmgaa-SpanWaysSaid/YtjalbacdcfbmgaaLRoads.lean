-- Written by xprint.py, a program of this work, round the kit's print.
/- What span.Roads answers, as a plain function of the list: the roads of all pairs, sorted, taken one by one where they join what was not joined. -/
import Derived.Test.YtjalbacdcfbmgaaPx0
import Derived.Test.YtjalbacdcfbmgaaPx5
import Derived.Test.YtjalbacdcfbmgaaPx6
import Derived.Test.YtjalbacdcfbmgaaLWide
import Derived.Test.YtjalbacdcfbmgaaXOpens
import Derived.Test.YtjalbacdcfbmgaaXSort
namespace Go.Proofs.Ytjalbacdcfbmgaa.P
open Go.RowKit Go.Proofs.YtjalbacdcfbmgaaW.PrintWords Go.Proofs.YtjalbacdcfbmgaaW.PrintLast Go.Proofs.YtjalbacdcfbmgaaW.PrintMore
attribute [local go_sem] max2_int min2_int max_two min_two max_three min_three max_four min_four   -- for this text's walks alone
attribute [local go_sem] add64_run carryOk_zero   -- for this text's walks alone
set_option linter.unusedVariables false
set_option linter.unusedSimpArgs false

theorem wrap_succ (i : Nat) (h : i < 9223372036854775807) : wrap64 ((i : Int) + 1) = ((i + 1 : Nat) : Int) := by unfold wrap64; omega
def pt (l : List S36) (i : Nat) : S36 := l.getD i z36
theorem rdT36_at (l : List S36) (i : Nat) : rd_T36 l (i : Int) = pt l i := by simp [rd_T36, pt]
def rdr (l : List S31) (i : Nat) : S31 := l.getD i z31
theorem rdT31_at (l : List S31) (i : Nat) : rd_T31 l (i : Int) = rdr l i := by simp [rd_T31, rdr]
theorem rd_at (l : List Int) (i : Nat) : rd l (i : Int) = l.getD i 0 := by simp [rd]
theorem pt_mem {l : List S36} {i : Nat} (hi : i < l.length) : pt l i ∈ l := by
  simp [pt, List.getD_eq_getElem?_getD, List.getElem?_eq_getElem hi]
theorem pt_wf {l : List S36} (hw : ∀ x ∈ l, wf36 x) {i : Nat} (hi : i < l.length) : (0 ≤ (pt l i).f1 ∧ (pt l i).f1 ≤ 4294967295) ∧ (0 ≤ (pt l i).f2 ∧ (pt l i).f2 ≤ 4294967295) :=
  have h := hw _ (pt_mem hi)
  ⟨Go.bounds_u32 h.2.1, Go.bounds_u32 h.2.2.1⟩
/-- The distance of two places of a list, and their road. -/
def dst (l : List S36) (i j : Nat) : Int := distI (pt l i).f1 (pt l i).f2 (pt l j).f1 (pt l j).f2
def road (l : List S36) (i j : Nat) : S31 := ⟨i, j, ⟨hiI (dst l i j), loI (dst l i j)⟩⟩
def rowsFrom (l : List S36) : Nat → Nat → List S31
  | _, 0 => []
  | i, m + 1 => (List.range' (i + 1) (l.length - (i + 1))).map (road l i) ++ rowsFrom l (i + 1) m
def allRoads (l : List S36) : List S31 := rowsFrom l 0 l.length
theorem all_inner {l : List S36} (hw : ∀ x ∈ l, wf36 x) (hn : l.length ≤ 1000) (i : Nat) (hi : i < l.length) (r : List S31) : ∀ (m j : Nat) (out : List S31), j + m = l.length → out.length + m ≤ 4000000 →
    Ev (fun k => span_all.l0 k l (out ++ (List.range' j m).map (road l i)) l (l.length : Int) ((i + 1 : Nat) : Int)) r →
    Ev (fun k => span_all.l1 k l out (i : Int) (j : Int) l (l.length : Int) (i : Int) (pt l i).f0 (pt l i).f1 (pt l i).f2 (pt l i).f3) r := by
  intro m
  induction m with
  | zero =>
    intro j out hj ho h
    refine Ev.step (fun k => ?_) h
    simp only [span_all.l1]
    rw [if_neg (by omega), wrap_succ i (by omega)]
    simp
  | succ m ih =>
    intro j out hj ho h
    have hjl : j < l.length := by omega
    refine Ev.step (f := fun k => (wide_Between.f k (pt l i).f1 (pt l i).f2 (pt l j).f1 (pt l j).f2).bind fun bt => span_all.l1 k l (out ++ [(⟨i, j, ⟨bt.1, bt.2⟩⟩ : S31)]) (i : Int) ((j + 1 : Nat) : Int) l (l.length : Int) (i : Int) (pt l i).f0 (pt l i).f1 (pt l i).f2 (pt l i).f3) (fun k => ?_) ?_
    · simp only [span_all.l1]
      have ho2 : out.length < 4398046511104 := by omega
      rw [if_pos (by omega), if_pos (by omega), rdT36_at, wrap_succ j (by omega)]
      simp only [if_pos ho2]
    · refine Ev.bind ⟨3, fun k hk => wide_Between_val _ _ _ _ (pt_wf hw hi).1 (pt_wf hw hi).2 (pt_wf hw hjl).1 (pt_wf hw hjl).2 k hk⟩ ?_
      refine ih (j + 1) _ (by omega) (by simp; omega) ?_
      have e : out ++ [(⟨i, j, ⟨hiI (dst l i j), loI (dst l i j)⟩⟩ : S31)] ++ (List.range' (j + 1) m).map (road l i) = out ++ (List.range' j (m + 1)).map (road l i) := by
        rw [List.range'_succ]
        simp [road]
      show Ev (fun k => span_all.l0 k l (out ++ [(⟨i, j, ⟨hiI (dst l i j), loI (dst l i j)⟩⟩ : S31)] ++ (List.range' (j + 1) m).map (road l i)) l (l.length : Int) ((i + 1 : Nat) : Int)) r
      rw [e]
      exact h
theorem all_outer {l : List S36} (hw : ∀ x ∈ l, wf36 x) (hn : l.length ≤ 1000) : ∀ (m i : Nat) (out : List S31), i + m = l.length → out.length + m * 1000 ≤ 2000000 →
    Ev (fun k => span_all.l0 k l out l (l.length : Int) (i : Int)) ((out ++ rowsFrom l i m).mergeSort leRoad) := by
  intro m
  induction m with
  | zero =>
    intro i out hi ho
    refine Ev.step (f := fun _ => some (out.mergeSort leRoad)) (fun k => ?_) ?_
    · simp only [span_all.l0]
      rw [if_neg (by omega)]
      unfold sortRoads.f
      rw [if_pos (by omega)]
      rfl
    · simpa [rowsFrom] using Ev.now (out.mergeSort leRoad)
  | succ m ih =>
    intro i out hi ho
    have hil : i < l.length := by omega
    refine Ev.step (f := fun k => span_all.l1 k l out (i : Int) ((i + 1 : Nat) : Int) l (l.length : Int) (i : Int) (pt l i).f0 (pt l i).f1 (pt l i).f2 (pt l i).f3) (fun k => ?_) ?_
    · simp only [span_all.l0]
      rw [if_pos (by omega), if_pos (by omega), if_pos (by omega), rdT36_at, wrap_succ i (by omega)]
    · refine all_inner hw hn i hil _ (l.length - (i + 1)) (i + 1) out (by omega) (by omega) ?_
      have h := ih (i + 1) (out ++ (List.range' (i + 1) (l.length - (i + 1))).map (road l i)) (by omega) (by simp; omega)
      rw [List.append_assoc] at h
      exact h
def sortedRoads (l : List S36) : List S31 := (allRoads l).mergeSort leRoad
theorem span_all_val {l : List S36} (hw : ∀ x ∈ l, wf36 x) (hn : l.length ≤ 1000) : Ev (fun k => span_all.f k l) (sortedRoads l) := by
  have h := all_outer hw hn l.length 0 [] (by omega) (by simp; omega)
  simpa [span_all.f, sortedRoads, allRoads] using h
/-- The groups joined: all that had b's number have a's. -/
def joinG (g : List Int) (a b : Int) : List Int := g.map fun x => if x = b then a else x
def kruskal : List S31 → List Int → List S31 → List S31
  | [], _, out => out
  | r :: rs, g, out => if rd g r.f0 = rd g r.f1 then kruskal rs g out else kruskal rs (joinG g (rd g r.f0) (rd g r.f1)) (out ++ [r])
theorem roads_join {rs : List S31} {out : List S31} {i : Nat} {a b : Int} {r : List S31} (g : List Int) (hg : g.length ≤ 1000) (hi : i < rs.length) (hr : rs.length ≤ 2000000) : ∀ (m j : Nat), j + m = g.length →
    Ev (fun k => span_Roads.l1 k (joinG g a b) out rs (rs.length : Int) ((i + 1 : Nat) : Int)) r →
    Ev (fun k => span_Roads.l2 k (joinG (g.take j) a b ++ g.drop j) out a b rs (rs.length : Int) (i : Int) (g.length : Int) (j : Int)) r := by
  intro m
  induction m with
  | zero =>
    intro j hj h
    refine Ev.step (fun k => ?_) h
    simp only [span_Roads.l2]
    rw [if_neg (by omega), wrap_succ i (by omega), List.take_of_length_le (by omega), List.drop_of_length_le (by omega), List.append_nil]
  | succ m ih =>
    intro j hj h
    have hjl : j < g.length := by omega
    have hlen : (joinG (g.take j) a b ++ g.drop j).length = g.length := by simp [joinG]; omega
    have hlj : (joinG (g.take j) a b).length = j := by simp [joinG]; omega
    have hdrop : g.drop j = g[j] :: g.drop (j + 1) := List.drop_eq_getElem_cons hjl
    have hrd : rd (joinG (g.take j) a b ++ g.drop j) (j : Int) = g[j] := by
      rw [rd_at, List.getD_eq_getElem?_getD, List.getElem?_append_right (by omega), hlj, Nat.sub_self, hdrop]
      rfl
    have htake : joinG (g.take (j + 1)) a b = joinG (g.take j) a b ++ [if g[j] = b then a else g[j]] := by
      rw [List.take_succ_eq_append_getElem hjl]
      unfold joinG
      rw [List.map_append]
      rfl
    have hih := ih (j + 1) (by omega) h
    rw [htake] at hih
    refine Ev.step (fun k => ?_) hih
    simp only [span_Roads.l2]
    rw [if_pos (by omega), if_pos (by omega), if_pos (by omega), hrd, wrap_succ j (by omega)]
    by_cases hb : g[j] = b
    · rw [if_pos hb, if_pos hb]
      rw [Int.toNat_natCast, List.set_append_right _ _ (by omega), hlj, Nat.sub_self, hdrop, List.set_cons_zero, List.append_assoc]
      rfl
    · rw [if_neg hb, if_neg hb, hdrop, List.append_assoc]
      rfl
theorem roads_loop {n : Nat} (hn : n ≤ 1000) (rs : List S31) (hr : rs.length ≤ 2000000) (hp : ∀ r ∈ rs, (0 ≤ r.f0 ∧ r.f0 < n) ∧ (0 ≤ r.f1 ∧ r.f1 < n)) : ∀ (m i : Nat) (g : List Int) (out : List S31), i + m = rs.length → g.length = n → out.length ≤ i →
    Ev (fun k => span_Roads.l1 k g out rs (rs.length : Int) (i : Int)) (kruskal (rs.drop i) g out) := by
  intro m
  induction m with
  | zero =>
    intro i g out hi hg ho
    rw [List.drop_of_length_le (by omega)]
    refine Ev.step (f := fun _ => some out) (fun k => ?_) (Ev.now out)
    simp only [span_Roads.l1]
    rw [if_neg (by omega)]
  | succ m ih =>
    intro i g out hi hg ho
    have hil : i < rs.length := by omega
    have hdrop : rs.drop i = rs[i] :: rs.drop (i + 1) := List.drop_eq_getElem_cons hil
    have hrd : rdr rs i = rs[i] := by simp [rdr, List.getD_eq_getElem?_getD, List.getElem?_eq_getElem hil]
    obtain ⟨⟨p0, p1⟩, q0, q1⟩ := hp rs[i] (List.getElem_mem hil)
    rw [hdrop]
    by_cases he : rd g rs[i].f0 = rd g rs[i].f1
    · have hk : kruskal (rs[i] :: rs.drop (i + 1)) g out = kruskal (rs.drop (i + 1)) g out := by simp only [kruskal]; rw [if_pos he]
      rw [hk]
      refine Ev.step (fun k => ?_) (ih (i + 1) g out (by omega) hg (by omega))
      simp only [span_Roads.l1]
      rw [if_pos (by omega), if_pos (by omega), if_pos (by omega), rdT31_at, hrd, if_pos p0, if_pos (by omega), if_pos q0, if_pos (by omega), if_pos he, wrap_succ i (by omega)]
    · have hk : kruskal (rs[i] :: rs.drop (i + 1)) g out = kruskal (rs.drop (i + 1)) (joinG g (rd g rs[i].f0) (rd g rs[i].f1)) (out ++ [rs[i]]) := by simp only [kruskal]; rw [if_neg he]
      rw [hk]
      have h1 := ih (i + 1) (joinG g (rd g rs[i].f0) (rd g rs[i].f1)) (out ++ [rs[i]]) (by omega) (by simp [joinG, hg]) (by simp; omega)
      have h2 := roads_join g (by omega) hil hr g.length 0 (by omega) h1
      refine Ev.step (fun k => ?_) h2
      simp only [span_Roads.l1]
      rw [if_pos (by omega), if_pos (by omega), if_pos (by omega), rdT31_at, hrd, if_pos p0, if_pos (by omega), if_pos q0, if_pos (by omega), if_neg he, if_pos (by omega)]
      simp [joinG]
def idG (n : Nat) : List Int := (List.range n).map fun (i : Nat) => (i : Int)
theorem roads_init {l : List S36} (hn : l.length ≤ 1000) {r : List S31} : ∀ (m j : Nat), j + m = l.length →
    Ev (fun k => span_Roads.l0 k l (idG l.length) (l.length : Int) (l.length : Int)) r →
    Ev (fun k => span_Roads.l0 k l (idG j ++ List.replicate m 0) (l.length : Int) (j : Int)) r := by
  intro m
  induction m with
  | zero =>
    intro j hj h
    have : j = l.length := by omega
    subst this
    simpa using h
  | succ m ih =>
    intro j hj h
    have hlen : (idG j ++ List.replicate (m + 1) 0).length = l.length := by simp [idG]; omega
    refine Ev.step (fun k => ?_) (ih (j + 1) (by omega) h)
    rw [span_Roads.l0]
    rw [if_pos (by omega), if_pos (by omega), if_pos (by omega), wrap_succ j (by omega)]
    congr 1
    rw [Int.toNat_natCast, List.set_append_right _ _ (by simp [idG])]
    simp [idG, List.range_succ, List.replicate_succ]
def roads (l : List S36) : List S31 := kruskal (sortedRoads l) (idG l.length) []
theorem rowsFrom_mem {l : List S36} {r : S31} : ∀ (m i : Nat), r ∈ rowsFrom l i m → i + m ≤ l.length → ∃ a b, i ≤ a ∧ a < b ∧ b < l.length ∧ r = road l a b := by
  intro m
  induction m with
  | zero => intro i h; simp [rowsFrom] at h
  | succ m ih =>
    intro i h hi
    simp only [rowsFrom, List.mem_append, List.mem_map, List.mem_range'_1] at h
    rcases h with ⟨j, hj, rfl⟩ | h
    · exact ⟨i, j, by omega, by omega, by omega, rfl⟩
    · obtain ⟨a, b, h1, h2, h3, h4⟩ := ih (i + 1) h (by omega)
      exact ⟨a, b, by omega, h2, h3, h4⟩
theorem rowsFrom_len (l : List S36) : ∀ (m i : Nat), (rowsFrom l i m).length ≤ m * l.length := by
  intro m
  induction m with
  | zero => intro i; simp [rowsFrom]
  | succ m ih =>
    intro i
    have := ih (i + 1)
    simp only [rowsFrom, List.length_append, List.length_map, List.length_range']
    rw [Nat.add_mul, Nat.one_mul]
    omega
theorem sorted_mem {l : List S36} {r : S31} (h : r ∈ sortedRoads l) : ∃ a b, a < b ∧ b < l.length ∧ r = road l a b := by
  obtain ⟨a, b, _, h2, h3, h4⟩ := rowsFrom_mem l.length 0 ((List.mem_mergeSort).1 h) (by omega)
  exact ⟨a, b, h2, h3, h4⟩
theorem sorted_len {l : List S36} (hn : l.length ≤ 1000) : (sortedRoads l).length ≤ 2000000 := by
  unfold sortedRoads allRoads
  rw [List.length_mergeSort]
  have h1 := rowsFrom_len l l.length 0
  have h2 : l.length * l.length ≤ 1000 * 1000 := Nat.mul_le_mul hn hn
  omega
theorem span_Roads_val {l : List S36} (hw : ∀ x ∈ l, wf36 x) (hn : l.length ≤ 1000) : Ev (fun k => span_Roads.f k l) (roads l) := by
  have hp : ∀ r ∈ sortedRoads l, (0 ≤ r.f0 ∧ r.f0 < (l.length : Int)) ∧ (0 ≤ r.f1 ∧ r.f1 < (l.length : Int)) := by
    intro r hr
    obtain ⟨a, b, h1, h2, rfl⟩ := sorted_mem hr
    simp only [road]
    omega
  have h1 := roads_loop hn (sortedRoads l) (sorted_len hn) hp (sortedRoads l).length 0 (idG l.length) [] (by omega) (by simp [idG]) (by simp)
  rw [List.drop_zero] at h1
  have h2 : Ev (fun k => span_Roads.l0 k l (idG l.length) (l.length : Int) (l.length : Int)) (roads l) := by
    refine Ev.step (f := fun k => (span_all.f k l).bind fun t => span_Roads.l1 k (idG l.length) [] t (t.length : Int) 0) (fun k => ?_) (Ev.bind (span_all_val hw hn) h1)
    simp only [span_Roads.l0]
    rw [if_neg (by omega)]
  have h3 := roads_init hn l.length 0 (by omega) h2
  refine Ev.congr (fun k => ?_) h3
  simp only [span_Roads.f]
  rw [if_pos (by omega), if_pos (by omega)]
  simp [idG]

end Go.Proofs.Ytjalbacdcfbmgaa.P
