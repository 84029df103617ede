/- SpanRoads, over lists and numbers: the roads that join all are, one by one, the least that join two that were not joined. -/
import Derived.Test.YtjalbacdcfbmgaaStSpanRoads
import Derived.Test.YtjalbacdcfbmgaaLAlive
namespace Go.Proofs.Ytjalbacdcfbmgaa.Pure
open Go.RowKit Go.Proofs.YtjalbacdcfbmgaaW.PrintWords Go.Proofs.YtjalbacdcfbmgaaW.PrintLast Go.Proofs.YtjalbacdcfbmgaaW.PrintMore
open Go.Proofs.Ytjalbacdcfbmgaa.P
/-- By length alone. -/
def ltL (a b : S31) : Prop := a.f2.f0 < b.f2.f0 ∨ (a.f2.f0 = b.f2.f0 ∧ a.f2.f1 < b.f2.f1)
instance (a b : S31) : Decidable (ltL a b) := by unfold ltL; infer_instance
/-- By places alone. -/
def lex (a b : S31) : Prop := a.f0 < b.f0 ∨ (a.f0 = b.f0 ∧ a.f1 < b.f1)
def same (g : List Int) (r : S31) : Prop := rd g r.f0 = rd g r.f1
instance (g : List Int) (r : S31) : Decidable (same g r) := by unfold same; infer_instance
def pick (g : List Int) (best r : S31) : S31 := if same g r then best else if best.f0 < 0 then r else if ltL r best then r else best
def none0 : S31 := ⟨-1, 0, ⟨0, 0⟩⟩
/-- The best of those that were looked at. -/
def Good (g : List Int) (b : S31) (pre : List S31) : Prop :=
  (b = none0 ∧ ∀ x ∈ pre, same g x) ∨ (b ∈ pre ∧ ¬ same g b ∧ ∀ x ∈ pre, ¬ same g x → ¬ ltRoad x b)
theorem pick_good {g : List Int} {pre : List S31} {b r : S31} (hb : Good g b pre) (hp : ∀ x ∈ pre, 0 ≤ x.f0) (hl : ∀ x ∈ pre, lex x r) : Good g (pick g b r) (pre ++ [r]) := by
  unfold pick
  by_cases hs : same g r
  · rw [if_pos hs]
    rcases hb with ⟨rfl, h⟩ | ⟨h1, h2, h3⟩
    · refine .inl ⟨rfl, fun x hx => ?_⟩
      rcases List.mem_append.1 hx with hx | hx
      · exact h x hx
      · rw [List.mem_singleton] at hx; subst hx; exact hs
    · refine .inr ⟨List.mem_append_left _ h1, h2, fun x hx hn => ?_⟩
      rcases List.mem_append.1 hx with hx | hx
      · exact h3 x hx hn
      · rw [List.mem_singleton] at hx; subst hx; exact absurd hs hn
  · rw [if_neg hs]
    rcases hb with ⟨rfl, h⟩ | ⟨h1, h2, h3⟩
    · rw [if_pos (by decide)]
      refine .inr ⟨by simp, hs, fun x hx hn => ?_⟩
      rcases List.mem_append.1 hx with hx | hx
      · exact absurd (h x hx) hn
      · rw [List.mem_singleton] at hx; subst hx; unfold ltRoad; omega
    · rw [if_neg (by have := hp b h1; omega)]
      by_cases hlt : ltL r b
      · rw [if_pos hlt]
        refine .inr ⟨by simp, hs, fun x hx hn => ?_⟩
        rcases List.mem_append.1 hx with hx | hx
        · have h4 := h3 x hx hn
          unfold ltRoad at h4 ⊢
          unfold ltL at hlt
          omega
        · rw [List.mem_singleton] at hx; subst hx; unfold ltRoad; omega
      · rw [if_neg hlt]
        refine .inr ⟨List.mem_append_left _ h1, h2, fun x hx hn => ?_⟩
        rcases List.mem_append.1 hx with hx | hx
        · exact h3 x hx hn
        · rw [List.mem_singleton] at hx
          subst hx
          have h5 := hl b h1
          unfold lex at h5
          unfold ltL at hlt
          unfold ltRoad
          omega
theorem fold_good {g : List Int} : ∀ (rest pre : List S31) (b : S31), Good g b pre → (∀ x ∈ pre ++ rest, 0 ≤ x.f0) → (pre ++ rest).Pairwise lex → Good g (rest.foldl (pick g) b) (pre ++ rest) := by
  intro rest
  induction rest with
  | nil => intro pre b h _ _; simpa using h
  | cons r rest ih =>
    intro pre b h h0 hp
    have e : pre ++ r :: rest = (pre ++ [r]) ++ rest := by simp
    rw [e] at h0 hp ⊢
    rw [List.foldl_cons]
    refine ih (pre ++ [r]) _ (pick_good h (fun x hx => h0 x (by simp [hx])) (fun x hx => ?_)) h0 hp
    rw [List.append_assoc, List.pairwise_append] at hp
    exact hp.2.2 x hx r (by simp)
theorem rows_lex (l : List S36) : ∀ (m i : Nat), i + m ≤ l.length → (rowsFrom l i m).Pairwise lex := by
  intro m
  induction m with
  | zero => intro i _; simp [rowsFrom]
  | succ m ih =>
    intro i hi
    simp only [rowsFrom]
    rw [List.pairwise_append]
    refine ⟨?_, ih (i + 1) (by omega), fun x hx y hy => ?_⟩
    · rw [List.pairwise_map]
      refine List.Pairwise.imp ?_ (List.pairwise_lt_range' (s := i + 1) (n := l.length - (i + 1)) (step := 1))
      intro a b hab
      exact .inr ⟨rfl, by simp only [road]; omega⟩
    · obtain ⟨j, hj, rfl⟩ := List.mem_map.1 hx
      obtain ⟨a, b, h1, h2, h3, rfl⟩ := rowsFrom_mem m (i + 1) hy (by omega)
      unfold lex road
      simp only
      omega
theorem all_nonneg {l : List S36} {x : S31} (hx : x ∈ allRoads l) : 0 ≤ x.f0 := by
  obtain ⟨a, b, _, _, _, rfl⟩ := rowsFrom_mem l.length 0 hx (by omega)
  simp [road]
theorem best_all (l : List S36) (g : List Int) : Good g ((allRoads l).foldl (pick g) none0) (allRoads l) := by
  have h := fold_good (g := g) (allRoads l) [] none0 (.inl ⟨rfl, by simp⟩) (by rw [List.nil_append]; exact fun x hx => all_nonneg hx) (by rw [List.nil_append]; exact rows_lex l l.length 0 (by omega))
  simpa using h
theorem sorted_sorted (l : List S36) : (sortedRoads l).Pairwise (fun a b => ¬ ltRoad b a) := by
  have h := List.pairwise_mergeSort (le := leRoad) (fun a b c h1 h2 => by
    unfold leRoad at *
    simp only [decide_eq_true_eq] at *
    unfold ltRoad at *
    omega) (fun a b => by
    unfold leRoad
    simp only [Bool.or_eq_true, decide_eq_true_eq]
    unfold ltRoad
    omega) (allRoads l)
  refine h.imp ?_
  intro a b hab
  simpa [leRoad] using hab
/-- The first of the sorted that joins what was not joined is the one that a look over all finds. -/
theorem best_first {l : List S36} {g : List Int} {pre rest : List S31} {r : S31} (hs : sortedRoads l = pre ++ r :: rest) (hpre : ∀ x ∈ pre, same g x) (hr : ¬ same g r) : (allRoads l).foldl (pick g) none0 = r := by
  have hmem : ∀ x, x ∈ allRoads l ↔ x ∈ sortedRoads l := fun x => (List.mem_mergeSort).symm
  have hrm : r ∈ allRoads l := (hmem r).2 (by rw [hs]; simp)
  rcases best_all l g with ⟨_, h⟩ | ⟨h1, h2, h3⟩
  · exact absurd (h r hrm) hr
  · generalize (allRoads l).foldl (pick g) none0 = b at h1 h2 h3 ⊢
    have h4 := h3 r hrm hr
    have hb : b ∈ pre ++ r :: rest := by rw [← hs]; exact (hmem b).1 h1
    have h5 : ¬ ltRoad b r := by
      rcases List.mem_append.1 hb with hb | hb
      · exact absurd (hpre b hb) h2
      · rcases List.mem_cons.1 hb with rfl | hb
        · unfold ltRoad; omega
        · have hp := sorted_sorted l
          rw [hs, List.pairwise_append] at hp
          exact (List.pairwise_cons.1 hp.2.1).1 b hb
    refine cmpRoad_total b r ?_ ?_
    · rw [cmpRoad_ltOf]; simpa using h5
    · rw [cmpRoad_ltOf]; simpa using h4
theorem join_same {g : List Int} {a b : Int} {r : S31} (n : Nat) (hn : g.length = n) (h0 : 0 ≤ r.f0 ∧ r.f0 < n) (h1 : 0 ≤ r.f1 ∧ r.f1 < n) (h : same g r) : same (joinG g a b) r := by
  have e : ∀ x : Int, 0 ≤ x → x < n → rd (joinG g a b) x = if rd g x = b then a else rd g x := by
    intro x hx0 hx1
    have hx : x.toNat < g.length := by omega
    simp [rd, joinG, List.getD_eq_getElem?_getD, List.getElem?_eq_getElem hx]
  unfold same at *
  rw [e _ h0.1 h0.2, e _ h1.1 h1.2, h]
theorem join_joins {g : List Int} {r : S31} (n : Nat) (hn : g.length = n) (h0 : 0 ≤ r.f0 ∧ r.f0 < n) (h1 : 0 ≤ r.f1 ∧ r.f1 < n) : same (joinG g (rd g r.f0) (rd g r.f1)) r := by
  have e : ∀ x : Int, 0 ≤ x → x < n → rd (joinG g (rd g r.f0) (rd g r.f1)) x = if rd g x = rd g r.f1 then rd g r.f0 else rd g x := by
    intro x hx0 hx1
    have hx : x.toNat < g.length := by omega
    simp [rd, joinG, List.getD_eq_getElem?_getD, List.getElem?_eq_getElem hx]
  unfold same
  rw [e _ h0.1 h0.2, e _ h1.1 h1.2, if_pos rfl]
  split <;> rfl
/-! ### the law's loops -/
theorem scan_row {l : List S36} {F : List S31} {g : List Int} {n : Int} (hw : ∀ x ∈ l, wf36 x) (hl : l.length ≤ 1000) (hg : g.length = l.length) (i : Nat) (hi : i < l.length) : ∀ (m j : Nat) (b : S31), j + m = l.length → i < j →
    Ev (fun k => croftlaw42_SpanRoads.l2 k l F g n ((i + 1 : Nat) : Int) (((List.range' j m).map (road l i)).foldl (pick g) b).f0 (((List.range' j m).map (road l i)).foldl (pick g) b).f1 (((List.range' j m).map (road l i)).foldl (pick g) b).f2.f0 (((List.range' j m).map (road l i)).foldl (pick g) b).f2.f1) true →
    Ev (fun k => croftlaw42_SpanRoads.l3 k l F g n (i : Int) (j : Int) b.f0 b.f1 b.f2.f0 b.f2.f1) true := by
  intro m
  induction m with
  | zero =>
    intro j b hj hij h
    refine Ev.step (fun k => ?_) h
    simp only [croftlaw42_SpanRoads.l3]
    rw [if_neg (by omega), wrap_succ i (by omega)]
    rfl
  | succ m ih =>
    intro j b hj hij h
    have hjl : j < l.length := by omega
    rw [List.range'_succ, List.map_cons, List.foldl_cons] at h
    have h2 := ih (j + 1) (pick g b (road l i j)) (by omega) (by omega) h
    refine Ev.step (fun k => ?_) h2
    simp only [croftlaw42_SpanRoads.l3]
    rw [if_pos (by omega), if_pos (by omega), if_pos (by omega), if_pos (by omega), rdT36_at, rdT36_at, croftref03_Between_val _ _ _ _ (pt_wf hw hi).1 (pt_wf hw hi).2 (pt_wf hw hjl).1 (pt_wf hw hjl).2]
    simp only [Option.bind_some]
    rw [if_pos (by omega), if_pos (by omega), wrap_succ j (by omega)]
    have hsame : same g (road l i j) ↔ rd g (i : Int) = rd g (j : Int) := Iff.rfl
    unfold pick
    by_cases hs : rd g (i : Int) = rd g (j : Int)
    · rw [if_pos hs, if_pos (hsame.2 hs)]
    · rw [if_neg hs, if_neg (fun h => hs (hsame.1 h))]
      by_cases hb : b.f0 < 0
      · rw [if_pos hb, if_pos hb]
        rfl
      · rw [if_neg hb, if_neg hb]
        have hless : croftref03_Less.f (hiI (dst l i j)) (loI (dst l i j)) b.f2.f0 b.f2.f1 = some (decide (ltL (road l i j) b)) := by
          unfold croftref03_Less.f ltL road
          simp only
          by_cases h1 : hiI (dst l i j) < b.f2.f0
          · rw [if_pos h1]; simp [h1]
          · rw [if_neg h1]
            by_cases h2 : hiI (dst l i j) = b.f2.f0
            · rw [if_pos h2]; simp [h2]
            · rw [if_neg h2]; simp [h1, h2]
        show (croftref03_Less.f (hiI (dst l i j)) (loI (dst l i j)) b.f2.f0 b.f2.f1).bind _ = _
        rw [hless]
        simp only [Option.bind_some]
        by_cases hlt : ltL (road l i j) b
        · rw [if_pos (by simpa using hlt), if_pos hlt]
          rfl
        · rw [if_neg (by simpa using hlt), if_neg hlt]
theorem scan_all {l : List S36} {F : List S31} {g : List Int} {n : Int} (hw : ∀ x ∈ l, wf36 x) (hl : l.length ≤ 1000) (hg : g.length = l.length) : ∀ (m i : Nat) (b : S31), i + m = l.length →
    Ev (fun k => croftlaw42_SpanRoads.l2 k l F g n (l.length : Int) ((rowsFrom l i m).foldl (pick g) b).f0 ((rowsFrom l i m).foldl (pick g) b).f1 ((rowsFrom l i m).foldl (pick g) b).f2.f0 ((rowsFrom l i m).foldl (pick g) b).f2.f1) true →
    Ev (fun k => croftlaw42_SpanRoads.l2 k l F g n (i : Int) b.f0 b.f1 b.f2.f0 b.f2.f1) true := by
  intro m
  induction m with
  | zero =>
    intro i b hi h
    have : i = l.length := by omega
    subst this
    exact h
  | succ m ih =>
    intro i b hi h
    simp only [rowsFrom, List.foldl_append] at h
    have h2 := ih (i + 1) _ (by omega) h
    have h3 := scan_row hw hl hg i (by omega) (l.length - (i + 1)) (i + 1) b (by omega) (by omega) h2
    refine Ev.step (fun k => ?_) h3
    simp only [croftlaw42_SpanRoads.l2]
    rw [if_pos (by omega), wrap_succ i (by omega)]
theorem law_join {l : List S36} {F : List S31} {a b : Int} {n : Nat} (g : List Int) (hl : l.length ≤ 1000) (hg : g.length = l.length) (hn : n < 5000000) : ∀ (m j : Nat), j + m = g.length →
    Ev (fun k => croftlaw42_SpanRoads.l1 k l F (joinG g a b) ((n + 1 : Nat) : Int)) true →
    Ev (fun k => croftlaw42_SpanRoads.l4 k l F (joinG (g.take j) a b ++ g.drop j) (n : Int) a b (j : Int)) true := by
  intro m
  induction m with
  | zero =>
    intro j hj h
    refine Ev.step (fun k => ?_) h
    simp only [croftlaw42_SpanRoads.l4]
    rw [if_neg (by omega), wrap_succ n (by omega), List.take_of_length_le (by omega), List.drop_of_length_le (by omega), List.append_nil]
  | succ m ih =>
    intro j hj h
    have hjl : j < g.length := by omega
    have hlen : (joinG (g.take j) a b ++ g.drop j).length = g.length := by simp [joinG]; omega
    have hlj : (joinG (g.take j) a b).length = j := by simp [joinG]; omega
    have hdrop : g.drop j = g[j] :: g.drop (j + 1) := List.drop_eq_getElem_cons hjl
    have hrd : rd (joinG (g.take j) a b ++ g.drop j) (j : Int) = g[j] := by
      rw [rd_at, List.getD_eq_getElem?_getD, List.getElem?_append_right (by omega), hlj, Nat.sub_self, hdrop]
      rfl
    have htake : joinG (g.take (j + 1)) a b = joinG (g.take j) a b ++ [if g[j] = b then a else g[j]] := by
      rw [List.take_succ_eq_append_getElem hjl]
      unfold joinG
      rw [List.map_append]
      rfl
    have hih := ih (j + 1) (by omega) h
    rw [htake] at hih
    refine Ev.step (fun k => ?_) hih
    simp only [croftlaw42_SpanRoads.l4]
    rw [if_pos (by omega), if_pos (by omega), if_pos (by omega), hrd, wrap_succ j (by omega)]
    by_cases hb : g[j] = b
    · rw [if_pos hb, if_pos hb]
      rw [Int.toNat_natCast, List.set_append_right _ _ (by omega), hlj, Nat.sub_self, hdrop, List.set_cons_zero, List.append_assoc]
      rfl
    · rw [if_neg hb, if_neg hb, hdrop, List.append_assoc]
      rfl
theorem kruskal_prefix : ∀ (rs : List S31) (g : List Int) (out : List S31), ∃ more, kruskal rs g out = out ++ more := by
  intro rs
  induction rs with
  | nil => intro g out; exact ⟨[], by simp [kruskal]⟩
  | cons r rs ih =>
    intro g out
    simp only [kruskal]
    split
    · exact ih g out
    · obtain ⟨more, h⟩ := ih (joinG g (rd g r.f0) (rd g r.f1)) (out ++ [r])
      exact ⟨r :: more, by rw [h]; simp⟩
theorem law_steps {l : List S36} (hw : ∀ x ∈ l, wf36 x) (hl : l.length ≤ 1000) {F : List S31} (hF : F.length ≤ 2000000) : ∀ (rest pre : List S31) (g : List Int) (out : List S31), sortedRoads l = pre ++ rest → (∀ x ∈ pre, same g x) → g.length = l.length → kruskal rest g out = F →
    Ev (fun k => croftlaw42_SpanRoads.l1 k l F g (out.length : Int)) true := by
  intro rest
  induction rest with
  | nil =>
    intro pre g out hs hp hg hk
    simp only [kruskal] at hk
    subst hk
    refine Ev.step (f := fun _ => some true) (fun k => ?_) (Ev.now _)
    simp only [croftlaw42_SpanRoads.l1]
    rw [if_neg (by omega)]
  | cons r rest ih =>
    intro pre g out hs hp hg hk
    have hrb : (0 ≤ r.f0 ∧ r.f0 < (l.length : Int)) ∧ (0 ≤ r.f1 ∧ r.f1 < (l.length : Int)) := by
      obtain ⟨a, b, h1, h2, rfl⟩ := sorted_mem (l := l) (r := r) (by rw [hs]; simp)
      simp only [road]
      omega
    have hs2 : sortedRoads l = (pre ++ [r]) ++ rest := by rw [hs]; simp
    by_cases hsm : same g r
    · have hk2 : kruskal rest g out = F := by
        rw [← hk]
        simp only [kruskal]
        exact (if_pos (show rd g r.f0 = rd g r.f1 from hsm)).symm
      exact ih (pre ++ [r]) g out hs2 (fun x hx => by
        rcases List.mem_append.1 hx with hx | hx
        · exact hp x hx
        · rw [List.mem_singleton] at hx; subst hx; exact hsm) hg hk2
    · have hk2 : kruskal rest (joinG g (rd g r.f0) (rd g r.f1)) (out ++ [r]) = F := by
        rw [← hk]
        simp only [kruskal]
        exact (if_neg (show ¬ rd g r.f0 = rd g r.f1 from hsm)).symm
      have hpr : ∀ x ∈ pre ++ [r], same (joinG g (rd g r.f0) (rd g r.f1)) x := by
        intro x hx
        rcases List.mem_append.1 hx with hx | hx
        · obtain ⟨a, b, h1, h2, rfl⟩ := sorted_mem (l := l) (r := x) (by rw [hs]; simp [hx])
          refine join_same l.length hg ?_ ?_ (hp _ hx)
          · simp only [road]; omega
          · simp only [road]; omega
        · rw [List.mem_singleton] at hx; subst hx; exact join_joins l.length hg hrb.1 hrb.2
      have h1 := ih (pre ++ [r]) (joinG g (rd g r.f0) (rd g r.f1)) (out ++ [r]) hs2 hpr (by simp [joinG, hg]) hk2
      have hlt : out.length < F.length := by
        obtain ⟨more, h⟩ := kruskal_prefix rest (joinG g (rd g r.f0) (rd g r.f1)) (out ++ [r])
        rw [← hk2, h]
        simp
      have hat : rdr F out.length = r := by
        obtain ⟨more, h⟩ := kruskal_prefix rest (joinG g (rd g r.f0) (rd g r.f1)) (out ++ [r])
        rw [← hk2, h]
        simp [rdr, List.getD_eq_getElem?_getD]
      have hbest := best_first hs hp hsm
      have h2 := law_join g hl hg (n := out.length) (by omega) g.length 0 (by omega) (by simpa using h1)
      have h3 : Ev (fun k => croftlaw42_SpanRoads.l2 k l F g (out.length : Int) (l.length : Int) ((rowsFrom l 0 l.length).foldl (pick g) none0).f0 ((rowsFrom l 0 l.length).foldl (pick g) none0).f1 ((rowsFrom l 0 l.length).foldl (pick g) none0).f2.f0 ((rowsFrom l 0 l.length).foldl (pick g) none0).f2.f1) true := by
        have hb2 : (rowsFrom l 0 l.length).foldl (pick g) none0 = r := hbest
        rw [hb2]
        refine Ev.step (fun k => ?_) h2
        simp only [croftlaw42_SpanRoads.l2]
        rw [if_neg (by omega), if_pos (by omega), if_pos (by omega), rdT31_at, hat, if_neg (by simp), if_pos hrb.1.1, if_pos (by omega), if_pos hrb.2.1, if_pos (by omega)]
        simp [joinG]
      have h4 := scan_all hw hl hg l.length 0 none0 (by omega) h3
      refine Ev.step (fun k => ?_) h4
      simp only [croftlaw42_SpanRoads.l1]
      rw [if_pos (by omega)]
      rfl
/-! ### how many roads -/
def labels (n : Nat) (g : List Int) : Nat := (List.range n).countP fun (v : Nat) => decide ((v : Int) ∈ g)
theorem count_less (P : Nat → Prop) [DecidablePred P] (b : Nat) : ∀ n, b < n → P b → (List.range n).countP (fun v => decide (P v ∧ v ≠ b)) + 1 = (List.range n).countP (fun v => decide (P v)) := by
  intro n
  induction n with
  | zero => intro h; omega
  | succ n ih =>
    intro h hp
    rw [List.range_succ, List.countP_append, List.countP_append]
    by_cases e : b = n
    · subst e
      have h1 : (List.range b).countP (fun v => decide (P v ∧ v ≠ b)) = (List.range b).countP (fun v => decide (P v)) := by
        refine List.countP_congr fun x hx => ?_
        have := List.mem_range.1 hx
        simp
        intro _
        omega
      rw [h1]
      simp [hp]
    · have h2 := ih (by omega) hp
      have h3 : n ≠ b := fun h => e h.symm
      have h4 : decide (P n ∧ n ≠ b) = decide (P n) := by simp [h3]
      rw [List.countP_singleton, List.countP_singleton, h4]
      omega
theorem labels_join {n : Nat} {g : List Int} {a b : Int} (ha : a ∈ g) (hb : b ∈ g) (hab : a ≠ b) (hr : ∀ x ∈ g, 0 ≤ x ∧ x < n) : labels n (joinG g a b) + 1 = labels n g := by
  have hb2 := hr b hb
  have h := count_less (fun v : Nat => (v : Int) ∈ g) b.toNat n (by omega) (by simpa [Int.toNat_of_nonneg hb2.1] using hb)
  unfold labels
  rw [← h]
  congr 1
  refine List.countP_congr fun x hx => ?_
  simp only [decide_eq_true_eq]
  unfold joinG
  constructor
  · intro hm
    obtain ⟨y, hy, he⟩ := List.mem_map.1 hm
    by_cases e : y = b
    · rw [if_pos e] at he
      rw [← he]
      exact ⟨ha, by omega⟩
    · rw [if_neg e] at he
      rw [← he]
      exact ⟨hy, by omega⟩
  · rintro ⟨h1, h2⟩
    refine List.mem_map.2 ⟨(x : Int), h1, ?_⟩
    rw [if_neg (by omega)]
theorem rd_mem {g : List Int} {x : Int} (h0 : 0 ≤ x) (h1 : x < g.length) : rd g x ∈ g := by
  have hx : x.toNat < g.length := by omega
  simp [rd, List.getD_eq_getElem?_getD, List.getElem?_eq_getElem hx]
theorem kruskal_count {n : Nat} : ∀ (rs pre : List S31) (g : List Int) (out : List S31), g.length = n → (∀ x ∈ g, 0 ≤ x ∧ x < n) → (∀ r ∈ pre ++ rs, (0 ≤ r.f0 ∧ r.f0 < n) ∧ (0 ≤ r.f1 ∧ r.f1 < n)) → (∀ r ∈ pre, same g r) → out.length + labels n g = n →
    ∃ g' : List Int, g'.length = n ∧ (∀ x ∈ g', 0 ≤ x ∧ x < n) ∧ (∀ r ∈ pre ++ rs, same g' r) ∧ (kruskal rs g out).length + labels n g' = n := by
  intro rs
  induction rs with
  | nil => intro pre g out hg hr _ hp hc; exact ⟨g, hg, hr, by simpa using hp, by simpa [kruskal] using hc⟩
  | cons r rs ih =>
    intro pre g out hg hr hb hp hc
    have e : pre ++ r :: rs = (pre ++ [r]) ++ rs := by simp
    rw [e] at hb ⊢
    have hrb := hb r (by simp)
    by_cases hs : same g r
    · have hk : kruskal (r :: rs) g out = kruskal rs g out := by simp only [kruskal]; exact if_pos (show rd g r.f0 = rd g r.f1 from hs)
      rw [hk]
      exact ih (pre ++ [r]) g out hg hr hb (fun x hx => by
        rcases List.mem_append.1 hx with hx | hx
        · exact hp x hx
        · rw [List.mem_singleton] at hx; subst hx; exact hs) hc
    · have hk : kruskal (r :: rs) g out = kruskal rs (joinG g (rd g r.f0) (rd g r.f1)) (out ++ [r]) := by simp only [kruskal]; exact if_neg (show ¬ rd g r.f0 = rd g r.f1 from hs)
      rw [hk]
      have ha := rd_mem (g := g) hrb.1.1 (by omega)
      have hbm := rd_mem (g := g) hrb.2.1 (by omega)
      have hl := labels_join ha hbm hs hr
      refine ih (pre ++ [r]) _ _ (by simp [joinG, hg]) (fun x hx => ?_) hb (fun x hx => ?_) (by simp; omega)
      · obtain ⟨y, hy, rfl⟩ := List.mem_map.1 hx
        split
        · exact hr _ ha
        · exact hr _ hy
      · rcases List.mem_append.1 hx with hx | hx
        · exact join_same n hg (hb x (by simp [hx])).1 (hb x (by simp [hx])).2 (hp x hx)
        · rw [List.mem_singleton] at hx; subst hx; exact join_joins n hg hrb.1 hrb.2
theorem labels_id (n : Nat) : labels n (idG n) = n := by
  unfold labels
  have h : (List.range n).countP (fun (v : Nat) => decide ((v : Int) ∈ idG n)) = (List.range n).length := by
    rw [List.countP_eq_length]
    intro v hv
    exact decide_eq_true (List.mem_map.2 ⟨v, hv, rfl⟩)
  rw [h, List.length_range]
theorem labels_one {n : Nat} {g : List Int} (hn : 0 < n) (hg : g.length = n) (hr : ∀ x ∈ g, 0 ≤ x ∧ x < n) (hs : ∀ i, i < n → rd g (i : Int) = rd g 0) : labels n g = 1 := by
  have h0 := rd_mem (g := g) (x := 0) (by omega) (by omega)
  have hr0 := hr _ h0
  have h := count_less (fun v : Nat => (v : Int) ∈ g) (rd g 0).toNat n (by omega) (by rw [Int.toNat_of_nonneg hr0.1]; exact h0)
  have hz : (List.range n).countP (fun (v : Nat) => decide ((v : Int) ∈ g ∧ v ≠ (rd g 0).toNat)) = 0 := by
    rw [List.countP_eq_zero]
    intro v hv hd
    simp only [decide_eq_true_eq] at hd
    obtain ⟨i, hi, he⟩ := List.getElem_of_mem hd.1
    have h1 := hs i (by omega)
    have h2 : rd g (i : Int) = g[i] := by simp [rd, List.getD_eq_getElem?_getD, List.getElem?_eq_getElem hi]
    omega
  unfold labels
  omega
theorem roads_mem {l : List S36} {a b : Nat} (hab : a < b) (hb : b < l.length) : road l a b ∈ allRoads l := by
  have key : ∀ (m i : Nat), i + m = l.length → i ≤ a → road l a b ∈ rowsFrom l i m := by
    intro m
    induction m with
    | zero => intro i hi h; omega
    | succ m ih =>
      intro i hi h
      simp only [rowsFrom, List.mem_append]
      by_cases e : i = a
      · subst e
        refine .inl (List.mem_map.2 ⟨b, ?_, rfl⟩)
        rw [List.mem_range'_1]
        omega
      · exact .inr (ih (i + 1) (by omega) (by omega))
  exact key l.length 0 (by omega) (by omega)
theorem roads_length (l : List S36) : (roads l).length = l.length - 1 := by
  have hb : ∀ r ∈ [] ++ sortedRoads l, (0 ≤ r.f0 ∧ r.f0 < (l.length : Int)) ∧ (0 ≤ r.f1 ∧ r.f1 < (l.length : Int)) := by
    intro r hr
    obtain ⟨a, b, h1, h2, rfl⟩ := sorted_mem (by simpa using hr)
    simp only [road]
    omega
  obtain ⟨g, hg, hr, hs, hc⟩ := kruskal_count (n := l.length) (sortedRoads l) [] (idG l.length) [] (by simp [idG]) (by
    intro x hx
    simp only [idG, List.mem_map, List.mem_range] at hx
    obtain ⟨v, hv, rfl⟩ := hx
    omega) hb (by simp) (by simp [labels_id])
  have hk : (roads l).length + labels l.length g = l.length := hc
  by_cases h0 : l.length = 0
  · omega
  · have h1 := labels_one (by omega) hg hr (fun i hi => by
      by_cases e : i = 0
      · subst e; rfl
      · have := hs (road l 0 i) (by
          rw [List.nil_append]
          exact (List.mem_mergeSort).2 (roads_mem (by omega) hi))
        exact this.symm)
    omega
theorem law_init {l : List S36} {F : List S31} (hl : l.length ≤ 1000) : ∀ (m j : Nat), j + m = l.length →
    Ev (fun k => croftlaw42_SpanRoads.l0 k l F (idG l.length) (l.length : Int)) true →
    Ev (fun k => croftlaw42_SpanRoads.l0 k l F (idG j ++ List.replicate m 0) (j : Int)) true := by
  intro m
  induction m with
  | zero =>
    intro j hj h
    have : j = l.length := by omega
    subst this
    simpa using h
  | succ m ih =>
    intro j hj h
    have hlen : (idG j ++ List.replicate (m + 1) 0).length = l.length := by simp [idG]; omega
    refine Ev.step (fun k => ?_) (ih (j + 1) (by omega) h)
    rw [croftlaw42_SpanRoads.l0]
    rw [if_pos (by omega), if_pos (by omega), if_pos (by omega), wrap_succ j (by omega)]
    congr 1
    rw [Int.toNat_natCast, List.set_append_right _ _ (by simp [idG])]
    simp [idG, List.range_succ, List.replicate_succ]
theorem law_at {l : List S36} (hw : ∀ x ∈ l, wf36 x) (hl : l.length ≤ 1000) : Ev (fun k => croftlaw42_SpanRoads.j0 k l) true := by
  have hlen := roads_length l
  have h1 := law_steps hw hl (F := roads l) (by omega) (sortedRoads l) [] (idG l.length) [] (by simp) (by simp) (by simp [idG]) rfl
  have h2 : Ev (fun k => croftlaw42_SpanRoads.l0 k l (roads l) (idG l.length) (l.length : Int)) true := by
    refine Ev.step (fun k => ?_) h1
    simp only [croftlaw42_SpanRoads.l0]
    have hm : ((roads l).length : Int) = mx (wrap64 ((l.length : Int) - 1)) 0 := by
      rw [wrap64_id _ (by omega) (by omega)]
      unfold mx
      split <;> omega
    rw [if_neg (by omega), if_pos hm]
    rfl
  have h3 := law_init hl l.length 0 (by omega) h2
  refine Ev.step (f := fun k => (span_Roads.f k l).bind fun t => croftlaw42_SpanRoads.l0 k l t (List.replicate l.length 0) 0) (fun k => ?_) (Ev.bind (span_Roads_val hw hl) (by simpa [idG] using h3))
  have g1 : 0 ≤ (l.length : Int) := by omega
  have g2 : l.length ≤ 35184372088832 := by omega
  simp only [croftlaw42_SpanRoads.j0, Int.toNat_natCast, if_pos g1, if_pos g2]
theorem SpanRoads : SpanRoads_Pure := by
  intro l hm hw
  refine Ev.rounds (g := fun k => croftlaw42_SpanRoads.f k l) ?_
  unfold croftlaw42_SpanRoads.f
  refine Ev.bind alive_val ?_
  simp only [if_true]
  by_cases h : (l.length : Int) > 14
  · refine Ev.congr (fun k => ?_) (law_at (l := l.take 14) (fun x hx => hw x (List.mem_of_mem_take hx)) (by simp; omega))
    rw [if_pos h, if_pos (by omega)]
  · refine Ev.congr (fun k => ?_) (law_at hw (by omega))
    rw [if_neg h]
end Go.Proofs.Ytjalbacdcfbmgaa.Pure
