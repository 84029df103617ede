/- SpanWays, over lists and numbers: the way told is the first of those with the fewest roads. -/
import Derived.Test.YtjalbacdcfbmgaaStSpanWays
import Derived.Test.YtjalbacdcfbmgaaLAlive
namespace Go.Proofs.Ytjalbacdcfbmgaa.Pure
open Go.RowKit Go.Proofs.YtjalbacdcfbmgaaW.PrintWords Go.Proofs.YtjalbacdcfbmgaaW.PrintLast Go.Proofs.YtjalbacdcfbmgaaW.PrintMore
open Go.Proofs.Ytjalbacdcfbmgaa.P
/-- Two places are joined by a road. -/
def adj (l : List S31) (a b : Int) : Prop := ∃ x ∈ l, (x.f0 = a ∧ x.f1 = b) ∨ (x.f0 = b ∧ x.f1 = a)
theorem adj_symm {l : List S31} {a b : Int} (h : adj l a b) : adj l b a := by
  obtain ⟨x, hx, h⟩ := h
  exact ⟨x, hx, h.symm⟩
def ends (n at_ : Int) (x : S31) : List Int :=
  if x.f1 = at_ then (if x.f0 ≥ 0 ∧ x.f0 < n then [x.f0] else []) else if x.f0 = at_ then (if x.f1 ≥ 0 ∧ x.f1 < n then [x.f1] else []) else []
def outs (n : Int) (l : List S31) (at_ : Int) : List Int := l.flatMap (ends n at_)
theorem ends_len (n at_ : Int) (x : S31) : (ends n at_ x).length ≤ 1 := by
  unfold ends
  split
  · split <;> simp
  · split
    · split <;> simp
    · simp
theorem outs_len (n : Int) (l : List S31) (at_ : Int) : (outs n l at_).length ≤ l.length := by
  induction l with
  | nil => simp [outs]
  | cons x l ih =>
    have := ends_len n at_ x
    simp only [outs, List.flatMap_cons, List.length_append, List.length_cons] at ih ⊢
    omega
theorem mem_outs (n : Int) (l : List S31) (at_ b : Int) : b ∈ outs n l at_ ↔ (0 ≤ b ∧ b < n) ∧ adj l at_ b := by
  unfold outs adj ends
  rw [List.mem_flatMap]
  constructor
  · rintro ⟨x, hx, h⟩
    by_cases h1 : x.f1 = at_
    · rw [if_pos h1] at h
      split at h
      · rw [List.mem_singleton] at h
        subst h
        exact ⟨by omega, x, hx, .inr ⟨rfl, h1⟩⟩
      · simp at h
    · rw [if_neg h1] at h
      split at h
      · split at h
        · rw [List.mem_singleton] at h
          subst h
          exact ⟨by omega, x, hx, .inl ⟨by assumption, rfl⟩⟩
        · simp at h
      · simp at h
  · rintro ⟨hb, x, hx, h⟩
    refine ⟨x, hx, ?_⟩
    by_cases h1 : x.f1 = at_
    · rw [if_pos h1]
      have : x.f0 = b := by omega
      rw [if_pos (by omega), this]
      simp
    · rw [if_neg h1]
      rw [if_pos (by omega), if_pos (by omega)]
      have : x.f1 = b := by omega
      rw [this]
      simp
/-! ### sorted, each once -/
theorem upTo_sorted (zs : List Int) (hs : ∀ i j : Nat, i ≤ j → j < zs.length → zs.toArray[i]! ≤ zs.toArray[j]!) : ∀ m, m ≤ zs.length → (Lib.compactUpTo zs.toArray m).Pairwise (· < ·) ∧ ∀ x, x ∈ Lib.compactUpTo zs.toArray m ↔ ∃ j, j < m ∧ zs.toArray[j]! = x := by
  intro m
  induction m with
  | zero => intro _; simp [Lib.compactUpTo]
  | succ m ih =>
    intro hm
    obtain ⟨h1, h2⟩ := ih (by omega)
    rw [Lib.compactUpTo_succ]
    by_cases hk : Lib.keeps zs.toArray m = true
    · rw [if_pos hk]
      have hk' : m = 0 ∨ zs.toArray[m]! ≠ zs.toArray[m - 1]! := by simpa [Lib.keeps] using hk
      constructor
      · rw [List.pairwise_append]
        refine ⟨h1, by simp, fun x hx y hy => ?_⟩
        rw [List.mem_singleton] at hy
        subst hy
        obtain ⟨j, hj, rfl⟩ := (h2 x).1 hx
        have a := hs j (m - 1) (by omega) (by omega)
        have b := hs (m - 1) m (by omega) (by omega)
        omega
      · intro x
        rw [List.mem_append, h2, List.mem_singleton]
        constructor
        · rintro (⟨j, hj, e⟩ | e)
          · exact ⟨j, by omega, e⟩
          · exact ⟨m, by omega, e.symm⟩
        · rintro ⟨j, hj, e⟩
          by_cases hjm : j = m
          · subst hjm; exact .inr e.symm
          · exact .inl ⟨j, by omega, e⟩
    · rw [if_neg hk, List.append_nil]
      have hk' : m ≠ 0 ∧ zs.toArray[m]! = zs.toArray[m - 1]! := by simpa [Lib.keeps] using hk
      refine ⟨h1, fun x => ?_⟩
      rw [h2]
      constructor
      · rintro ⟨j, hj, e⟩
        exact ⟨j, by omega, e⟩
      · rintro ⟨j, hj, e⟩
        by_cases hjm : j = m
        · subst hjm; exact ⟨j - 1, by omega, by rw [← hk'.2]; exact e⟩
        · exact ⟨j, by omega, e⟩
def nbr (n : Int) (l : List S31) (at_ : Int) : List Int := Lib.compact ((outs n l at_).mergeSort (fun a b => decide (a ≤ b)))
theorem get_bang (zs : List Int) {i : Nat} (hi : i < zs.length) : zs.toArray[i]! = zs[i] := by
  simp [getElem!_pos, hi]
theorem nbr_both (n : Int) (l : List S31) (at_ : Int) : (nbr n l at_).Pairwise (· < ·) ∧ ∀ b, b ∈ nbr n l at_ ↔ (0 ≤ b ∧ b < n) ∧ adj l at_ b := by
  unfold nbr
  have hsort := List.pairwise_mergeSort (le := fun (a b : Int) => decide (a ≤ b)) (fun a b c h1 h2 => by simp at *; omega) (fun a b => by simp; omega) (outs n l at_)
  have hmem : ∀ b, b ∈ (outs n l at_).mergeSort (fun a b => decide (a ≤ b)) ↔ (0 ≤ b ∧ b < n) ∧ adj l at_ b := fun b => List.mem_mergeSort.trans (mem_outs n l at_ b)
  generalize (outs n l at_).mergeSort (fun a b => decide (a ≤ b)) = zs at hsort hmem
  have hs : ∀ i j : Nat, i ≤ j → j < zs.length → zs.toArray[i]! ≤ zs.toArray[j]! := by
    intro i j hij hj
    rw [get_bang zs hj, get_bang zs (by omega)]
    by_cases e : i = j
    · subst e; omega
    · have := List.pairwise_iff_getElem.1 hsort i j (by omega) hj (by omega)
      simpa using this
  obtain ⟨h1, h2⟩ := upTo_sorted zs hs zs.length (by omega)
  refine ⟨h1, fun b => ?_⟩
  show b ∈ Lib.compactUpTo zs.toArray zs.length ↔ _
  rw [h2, ← hmem]
  constructor
  · rintro ⟨j, hj, e⟩
    rw [get_bang zs hj] at e
    rw [← e]
    exact List.getElem_mem hj
  · intro hb
    obtain ⟨j, hj, e⟩ := List.getElem_of_mem hb
    exact ⟨j, hj, by rw [get_bang zs hj, e]⟩
theorem mem_nbr {n : Int} {l : List S31} {at_ b : Int} : b ∈ nbr n l at_ ↔ (0 ≤ b ∧ b < n) ∧ adj l at_ b := (nbr_both n l at_).2 b
theorem nbr_len (n : Int) (l : List S31) (at_ : Int) : (nbr n l at_).length ≤ l.length := by
  have h := compact_le ((outs n l at_).mergeSort (fun a b => decide (a ≤ b)))
  rw [List.length_mergeSort] at h
  have := outs_len n l at_
  unfold nbr
  omega
theorem rdr_get {l : List S31} {i : Nat} (hi : i < l.length) : rdr l i = l[i] := by simp [rdr, List.getD_eq_getElem?_getD, List.getElem?_eq_getElem hi]
theorem rd_get {l : List Int} {i : Nat} (hi : i < l.length) : rd l (i : Int) = l[i] := by simp [rd, List.getD_eq_getElem?_getD, List.getElem?_eq_getElem hi]
theorem beside_loop {n at_ : Int} {l : List S31} (hl : l.length ≤ 1000) : ∀ (m i : Nat) (out : List Int), i + m = l.length → out.length ≤ i →
    Ev (fun k => span_beside.l0 k n at_ out l (l.length : Int) (i : Int)) (Lib.compact ((out ++ (l.drop i).flatMap (ends n at_)).mergeSort (fun a b => decide (a ≤ b)))) := by
  intro m
  induction m with
  | zero =>
    intro i out hi ho
    rw [List.drop_of_length_le (by omega), List.flatMap_nil, List.append_nil]
    refine Ev.step (fun k => ?_) (Ev.now _)
    simp only [span_beside.l0]
    rw [if_neg (by omega)]
    unfold sortInts.f compactInts.f
    rw [if_pos (by omega)]
    rfl
  | succ m ih =>
    intro i out hi ho
    have hil : i < l.length := by omega
    have hd : l.drop i = l[i] :: l.drop (i + 1) := List.drop_eq_getElem_cons hil
    rw [hd, List.flatMap_cons, ← List.append_assoc]
    have h := ih (i + 1) (out ++ ends n at_ l[i]) (by omega) (by have := ends_len n at_ l[i]; simp; omega)
    refine Ev.step (fun k => ?_) h
    simp only [span_beside.l0]
    rw [if_pos (by omega), if_pos (by omega), if_pos (by omega), rdT31_at, rdr_get hil, wrap_succ i (by omega)]
    have hlt : out.length < 17592186044416 := by omega
    simp only [if_pos hlt]
    unfold ends
    by_cases h1 : l[i].f1 = at_
    · rw [if_pos h1, if_pos h1]
      by_cases h2 : l[i].f0 ≥ 0
      · rw [if_pos h2]
        by_cases h3 : l[i].f0 < n
        · rw [if_pos h3, if_pos ⟨h2, h3⟩]
        · rw [if_neg h3, if_neg (fun h => h3 h.2), List.append_nil]
      · rw [if_neg h2, if_neg (fun h => h2 h.1), List.append_nil]
    · rw [if_neg h1, if_neg h1]
      by_cases h4 : l[i].f0 = at_
      · rw [if_pos h4, if_pos h4]
        by_cases h2 : l[i].f1 ≥ 0
        · rw [if_pos h2]
          by_cases h3 : l[i].f1 < n
          · rw [if_pos h3, if_pos ⟨h2, h3⟩]
          · rw [if_neg h3, if_neg (fun h => h3 h.2), List.append_nil]
        · rw [if_neg h2, if_neg (fun h => h2 h.1), List.append_nil]
      · rw [if_neg h4, if_neg h4, List.append_nil]
theorem beside_val (n at_ : Int) {l : List S31} (hl : l.length ≤ 1000) : Ev (fun k => span_beside.f k n l at_) (nbr n l at_) := beside_loop hl l.length 0 [] (by omega) (by simp)
theorem joined_loop {l : List S31} {a b : Int} (hl : l.length ≤ 1000) : ∀ (m i : Nat), i + m = l.length →
    ∃ r : Bool, (r = true ↔ adj (l.drop i) a b) ∧ Ev (fun k => croftlaw42_joined.l0 k l a b (i : Int)) r := by
  intro m
  induction m with
  | zero =>
    intro i hi
    refine ⟨false, ?_, ?_⟩
    · rw [List.drop_of_length_le (by omega)]
      simp [adj]
    · refine Ev.step (fun k => ?_) (Ev.now _)
      simp only [croftlaw42_joined.l0]
      rw [if_neg (by omega)]
  | succ m ih =>
    intro i hi
    have hil : i < l.length := by omega
    have hd : l.drop i = l[i] :: l.drop (i + 1) := List.drop_eq_getElem_cons hil
    obtain ⟨r, hr, he⟩ := ih (i + 1) (by omega)
    by_cases hc : (l[i].f0 = a ∧ l[i].f1 = b) ∨ (l[i].f0 = b ∧ l[i].f1 = a)
    · refine ⟨true, ?_, ?_⟩
      · rw [hd]
        exact ⟨fun _ => ⟨l[i], List.mem_cons_self, hc⟩, fun _ => rfl⟩
      · refine Ev.step (fun k => ?_) (Ev.now _)
        simp only [croftlaw42_joined.l0]
        rw [if_pos (by omega), if_pos (by omega), rdT31_at, rdr_get hil]
        by_cases h1 : l[i].f0 = a
        · rw [if_pos h1]
          by_cases h2 : l[i].f1 = b
          · rw [if_pos h2]
          · rw [if_neg h2, if_pos (by omega), if_pos (by omega)]
        · rw [if_neg h1, if_pos (by omega), if_pos (by omega)]
    · refine ⟨r, ?_, ?_⟩
      · rw [hr, hd]
        unfold adj
        constructor
        · rintro ⟨x, hx, h⟩; exact ⟨x, List.mem_cons_of_mem _ hx, h⟩
        · rintro ⟨x, hx, h⟩
          rcases List.mem_cons.1 hx with rfl | hx
          · exact absurd h hc
          · exact ⟨x, hx, h⟩
      · refine Ev.step (fun k => ?_) he
        simp only [croftlaw42_joined.l0]
        rw [if_pos (by omega), if_pos (by omega), rdT31_at, rdr_get hil, wrap_succ i (by omega)]
        by_cases h1 : l[i].f0 = a
        · rw [if_pos h1, if_neg (by omega)]
          by_cases h2 : l[i].f0 = b
          · rw [if_pos h2, if_neg (by omega)]
          · rw [if_neg h2]
        · rw [if_neg h1]
          by_cases h2 : l[i].f0 = b
          · rw [if_pos h2, if_neg (by omega)]
          · rw [if_neg h2]
theorem joined_val {l : List S31} (a b : Int) (hl : l.length ≤ 1000) : ∃ r : Bool, (r = true ↔ adj l a b) ∧ Ev (fun k => croftlaw42_joined.f k l a b) r := by
  obtain ⟨r, h1, h2⟩ := joined_loop (a := a) (b := b) hl l.length 0 (by omega)
  rw [List.drop_zero] at h1
  exact ⟨r, h1, h2⟩
/-! ### how far -/
def reach (n : Int) (l : List S31) (gl : Int) : Nat → Int → Prop
  | 0, v => v = gl
  | k + 1, v => reach n l gl k v ∨ ∃ u, reach n l gl k u ∧ (0 ≤ v ∧ v < n) ∧ adj l u v
theorem reach_in {n : Int} {l : List S31} {gl : Int} (ht : 0 ≤ gl ∧ gl < n) : ∀ k v, reach n l gl k v → 0 ≤ v ∧ v < n := by
  intro k
  induction k with
  | zero => intro v h; have e : v = gl := h; omega
  | succ k ih =>
    intro v h
    rcases h with h | ⟨u, _, h, _⟩
    · exact ih v h
    · exact h
def un (d : List Int) : Nat := d.countP fun x => decide (x < 0)
theorem rd_set {d : List Int} {b v x : Int} (hb : 0 ≤ b ∧ b < (d.length : Int)) (hv : 0 ≤ v) : rd (d.set b.toNat x) v = if v = b then x else rd d v := by
  unfold rd
  rw [List.getD_eq_getElem?_getD, List.getD_eq_getElem?_getD, List.getElem?_set]
  by_cases e : v = b
  · subst e
    rw [if_pos rfl, if_pos rfl, if_pos (by omega)]
    rfl
  · rw [if_neg (by omega), if_neg e]
theorem un_set {d : List Int} {b x : Int} (hb : 0 ≤ b ∧ b < (d.length : Int)) (h : rd d b < 0) (hx : 0 ≤ x) : un (d.set b.toNat x) + 1 = un d := by
  have hl : b.toNat < d.length := by omega
  have e : rd d b = d[b.toNat] := by simp [rd, List.getD_eq_getElem?_getD, List.getElem?_eq_getElem hl]
  have hpos : 0 < d.countP fun x => decide (x < 0) := by
    rw [List.countP_pos_iff]
    exact ⟨d[b.toNat], List.getElem_mem hl, by rw [← e]; simpa using h⟩
  unfold un
  rw [List.countP_set hl]
  rw [← e]
  simp only [h, decide_true, if_true]
  rw [if_neg (by simp; omega)]
  omega
structure Inv (n : Int) (l : List S31) (gl : Int) (d q : List Int) : Prop where
  len : (d.length : Int) = n
  hto : rd d gl = 0
  qok : ∀ v ∈ q, (0 ≤ v ∧ v < n) ∧ 0 ≤ rd d v
  sound : ∀ v, 0 ≤ v → v < n → 0 ≤ rd d v → reach n l gl (rd d v).toNat v
  low : ∀ v, 0 ≤ v → v < n → -1 ≤ rd d v
  cap : ∀ v, 0 ≤ v → v < n → rd d v + un d ≤ n - 1
  sorted : q.Pairwise (fun a b => rd d a ≤ rd d b)
  top : ∀ h q', q = h :: q' → ∀ v, 0 ≤ v → v < n → rd d v ≤ rd d h + 1
  done : ∀ v, 0 ≤ v → v < n → 0 ≤ rd d v → v ∈ q ∨ ∀ b ∈ nbr n l v, 0 ≤ rd d b ∧ rd d b ≤ rd d v + 1
theorem inv_visit {n : Int} {l : List S31} {gl : Int} {d q' : List Int} {h b : Int} (I : Inv n l gl d (h :: q')) (hb : b ∈ nbr n l h) (hn : rd d b < 0) : Inv n l gl (d.set b.toNat (rd d h + 1)) ((h :: q') ++ [b]) := by
  obtain ⟨hbr, hadj⟩ := mem_nbr.1 hb
  have hbl : 0 ≤ b ∧ b < (d.length : Int) := by have := I.len; omega
  obtain ⟨hhr, hh0⟩ := I.qok h (by simp)
  have hS : ∀ v, 0 ≤ v → rd (d.set b.toNat (rd d h + 1)) v = if v = b then rd d h + 1 else rd d v := fun v hv => rd_set hbl hv
  have hK : ∀ v, 0 ≤ v → 0 ≤ rd d v → rd (d.set b.toNat (rd d h + 1)) v = rd d v := fun v hv h0 => by
    rw [hS v hv, if_neg]
    intro e
    subst e
    omega
  have hB : rd (d.set b.toNat (rd d h + 1)) b = rd d h + 1 := by rw [hS b hbr.1, if_pos rfl]
  have hto0 : ∀ v, 0 ≤ v → v < n → rd (d.set b.toNat (rd d h + 1)) v = rd d v ∨ (v = b ∧ rd (d.set b.toNat (rd d h + 1)) v = rd d h + 1) := fun v hv _ => by
    rw [hS v hv]
    split
    · exact .inr ⟨by assumption, rfl⟩
    · exact .inl rfl
  have hu := un_set (x := rd d h + 1) hbl hn (by omega)
  have ht0 : 0 ≤ gl := by
    have := I.hto
    by_cases e : 0 ≤ gl
    · exact e
    · exfalso
      have h1 := I.cap h hhr.1 hhr.2
      have e2 : gl.toNat = (0 : Int).toNat := by omega
      have h2 : rd d gl = rd d 0 := by unfold rd; rw [e2]
      have h3 := I.sound 0 (by omega) (by omega) (by omega)
      rw [← h2, this] at h3
      have h4 : (0 : Int) = gl := h3
      omega
  refine ⟨by rw [List.length_set]; exact I.len, ?_, ?_, ?_, ?_, ?_, ?_, ?_, ?_⟩
  · rw [hK gl ht0 (by rw [I.hto]; omega)]; exact I.hto
  · intro v hv
    rcases List.mem_append.1 hv with hv | hv
    · obtain ⟨h1, h2⟩ := I.qok v hv
      exact ⟨h1, by rw [hK v h1.1 h2]; exact h2⟩
    · rw [List.mem_singleton] at hv
      subst hv
      exact ⟨hbr, by rw [hB]; omega⟩
  · intro v h0 h1 h2
    rcases hto0 v h0 h1 with e | ⟨e1, e2⟩
    · rw [e] at h2 ⊢; exact I.sound v h0 h1 h2
    · rw [e2]
      have e3 : (rd d h + 1).toNat = (rd d h).toNat + 1 := by omega
      rw [e3]
      subst e1
      exact .inr ⟨h, I.sound h hhr.1 hhr.2 hh0, hbr, hadj⟩
  · intro v h0 h1
    rcases hto0 v h0 h1 with e | ⟨e1, e2⟩
    · rw [e]; exact I.low v h0 h1
    · rw [e2]; omega
  · intro v h0 h1
    have c1 := I.cap v h0 h1
    have c2 := I.cap h hhr.1 hhr.2
    rcases hto0 v h0 h1 with e | ⟨e1, e2⟩
    · rw [e]; omega
    · rw [e2]; omega
  · rw [List.pairwise_append]
    refine ⟨?_, by simp, ?_⟩
    · refine List.Pairwise.imp_of_mem ?_ I.sorted
      intro a c ha hc hac
      obtain ⟨a1, a2⟩ := I.qok a ha
      obtain ⟨c1, c2⟩ := I.qok c hc
      rw [hK a a1.1 a2, hK c c1.1 c2]
      exact hac
    · intro a ha c hc
      rw [List.mem_singleton] at hc
      subst hc
      obtain ⟨a1, a2⟩ := I.qok a ha
      rw [hK a a1.1 a2, hB]
      exact I.top h q' rfl a a1.1 a1.2
  · intro h2 q2 e v h0 h1
    simp only [List.cons_append, List.cons.injEq] at e
    rw [← e.1, hK h hhr.1 hh0]
    rcases hto0 v h0 h1 with e | ⟨e1, e2⟩
    · rw [e]; exact I.top h q' rfl v h0 h1
    · rw [e2]; omega
  · intro v h0 h1 h2
    rcases hto0 v h0 h1 with e | ⟨e1, e2⟩
    · rw [e] at h2 ⊢
      rcases I.done v h0 h1 h2 with h3 | h3
      · exact .inl (List.mem_append_left _ h3)
      · refine .inr fun c hc => ?_
        obtain ⟨h4, h5⟩ := h3 c hc
        rw [hK c (mem_nbr.1 hc).1.1 h4]
        exact ⟨h4, h5⟩
    · subst e1
      exact .inl (by simp)
theorem inv_pop {n : Int} {l : List S31} {gl : Int} {d q' : List Int} {h : Int} (I : Inv n l gl d (h :: q')) (hd : ∀ b ∈ nbr n l h, 0 ≤ rd d b ∧ rd d b ≤ rd d h + 1) : Inv n l gl d q' := by
  refine ⟨I.len, I.hto, fun v hv => I.qok v (List.mem_cons_of_mem _ hv), I.sound, I.low, I.cap, (List.pairwise_cons.1 I.sorted).2, ?_, ?_⟩
  · intro h2 q2 e v h0 h1
    have a := I.top h q' rfl v h0 h1
    have b := (List.pairwise_cons.1 I.sorted).1 h2 (by rw [e]; simp)
    omega
  · intro v h0 h1 h2
    rcases I.done v h0 h1 h2 with h3 | h3
    · rcases List.mem_cons.1 h3 with rfl | h3
      · exact .inr hd
      · exact .inl h3
    · exact .inr h3
theorem far_inner {n : Int} {l : List S31} {gl h : Int} (hn : n ≤ 1000) (B : List Int) (hB : B = nbr n l h) (hBl : B.length ≤ 1000) : ∀ (m i : Nat) (d q' : List Int), i + m = B.length → Inv n l gl d (h :: q') → (h :: q').length + un d ≤ 2000 → (∀ (j : Nat) (_ : j < B.length), j < i → 0 ≤ rd d B[j] ∧ rd d B[j] ≤ rd d h + 1) →
    ∃ d' q2, Inv n l gl d' (h :: q2) ∧ (∀ b ∈ nbr n l h, 0 ≤ rd d' b ∧ rd d' b ≤ rd d' h + 1) ∧ (h :: q2).length + un d' = (h :: q').length + un d ∧
      ∀ r, Ev (fun k => span_far.l1 k n l d' q2) r → Ev (fun k => span_far.l2 k n l d (h :: q') B (B.length : Int) (i : Int)) r := by
  intro m
  induction m with
  | zero =>
    intro i d q' hi I hs hd
    refine ⟨d, q', I, fun b hb => ?_, rfl, fun r hr => ?_⟩
    · rw [← hB] at hb
      obtain ⟨j, hj, rfl⟩ := List.getElem_of_mem hb
      exact hd j hj (by omega)
    · refine Ev.step (fun k => ?_) hr
      simp only [span_far.l2]
      rw [if_neg (by omega), if_pos (by simp; omega)]
      rfl
  | succ m ih =>
    intro i d q' hi I hs hd
    have hiB : i < B.length := by omega
    obtain ⟨hbr, hadj⟩ := mem_nbr.1 (show B[i] ∈ nbr n l h by rw [← hB]; exact List.getElem_mem hiB)
    have hlen := I.len
    obtain ⟨hhr, hh0⟩ := I.qok h (by simp)
    have hcap := I.cap h hhr.1 hhr.2
    by_cases hv : rd d B[i] < 0
    · have I2 := inv_visit I (b := B[i]) (by rw [← hB]; exact List.getElem_mem hiB) hv
      have hu := un_set (d := d) (b := B[i]) (x := rd d h + 1) (by omega) hv (by omega)
      have hbl : 0 ≤ B[i] ∧ B[i] < (d.length : Int) := by omega
      have hS : ∀ v, 0 ≤ v → rd (d.set B[i].toNat (rd d h + 1)) v = if v = B[i] then rd d h + 1 else rd d v := fun v hv => rd_set hbl hv
      obtain ⟨d', q2, h1, h2, h3, h4⟩ := ih (i + 1) (d.set B[i].toNat (rd d h + 1)) (q' ++ [B[i]]) (by omega) I2 (by simp at hs ⊢; omega) (fun j hj hji => by
        have hjr := (mem_nbr.1 (show B[j] ∈ nbr n l h by rw [← hB]; exact List.getElem_mem hj)).1
        rw [hS _ hjr.1, hS h hhr.1]
        rw [if_neg (show ¬ h = B[i] by intro e; rw [← e] at hv; omega)]
        by_cases e : B[j] = B[i]
        · rw [if_pos e]; omega
        · rw [if_neg e]
          have : j ≠ i := by intro e2; subst e2; exact e rfl
          exact hd j hj (by omega))
      refine ⟨d', q2, h1, h2, by simp at h3 ⊢; omega, fun r hr => ?_⟩
      refine Ev.step (fun k => ?_) (h4 r hr)
      simp only [span_far.l2]
      have e0 : rd (h :: q') 0 = h := rfl
      have hw : wrap64 (rd d h + 1) = rd d h + 1 := by unfold wrap64; omega
      rw [if_pos (by omega), if_pos (by omega), if_pos (by omega), rd_get hiB, if_pos hbr.1, if_pos (by omega), if_pos hv, if_pos (by simp), e0, if_pos hhr.1, if_pos (by omega), if_pos (by simp at hs ⊢; omega), hw, wrap_succ i (by omega)]
      rfl
    · obtain ⟨d', q2, h1, h2, h3, h4⟩ := ih (i + 1) d q' (by omega) I hs (fun j hj hji => by
        by_cases e : j = i
        · subst e
          exact ⟨by omega, I.top h q' rfl _ hbr.1 hbr.2⟩
        · exact hd j hj (by omega))
      refine ⟨d', q2, h1, h2, h3, fun r hr => ?_⟩
      refine Ev.step (fun k => ?_) (h4 r hr)
      simp only [span_far.l2]
      rw [if_pos (by omega), if_pos (by omega), if_pos (by omega), rd_get hiB, if_pos hbr.1, if_pos (by omega), if_neg hv, wrap_succ i (by omega)]
theorem far_outer {n : Int} {l : List S31} {gl : Int} (hn : n ≤ 1000) (hl : l.length ≤ 1000) : ∀ (M : Nat) (d q : List Int), q.length + un d = M → M ≤ 2000 → Inv n l gl d q → ∃ d', Inv n l gl d' [] ∧ Ev (fun k => span_far.l1 k n l d q) d' := by
  intro M
  induction M with
  | zero =>
    intro d q hM _ I
    have : q = [] := List.length_eq_zero_iff.1 (by omega)
    subst this
    refine ⟨d, I, Ev.step (fun k => ?_) (Ev.now _)⟩
    simp only [span_far.l1]
    rw [if_neg (by simp)]
  | succ M ih =>
    intro d q hM hMl I
    cases q with
    | nil =>
      refine ⟨d, I, Ev.step (fun k => ?_) (Ev.now _)⟩
      simp only [span_far.l1]
      rw [if_neg (by simp)]
    | cons h q' =>
      obtain ⟨d', q2, h1, h2, h3, h4⟩ := far_inner (h := h) hn (nbr n l h) rfl (by have := nbr_len n l h; omega) (nbr n l h).length 0 d q' (by omega) I (by omega) (fun j hj hji => by omega)
      obtain ⟨d2, h5, h6⟩ := ih d' q2 (by simp at h3 hM ⊢; omega) (by omega) (inv_pop h1 h2)
      refine ⟨d2, h5, ?_⟩
      refine Ev.step (f := fun k => (span_beside.f k n l h).bind fun t => span_far.l2 k n l d (h :: q') t (t.length : Int) 0) (fun k => ?_) (Ev.bind (beside_val n h hl) (h4 _ h6))
      simp only [span_far.l1]
      rw [if_pos (by simp), if_pos (by simp)]
      rfl
theorem far_fill {N : Nat} {l : List S31} {gl : Int} {r : List Int} (hN : N ≤ 1000) : ∀ (m j : Nat), j + m = N →
    Ev (fun k => span_far.l0 k (N : Int) l gl (List.replicate N (-1)) (N : Int) (N : Int)) r →
    Ev (fun k => span_far.l0 k (N : Int) l gl (List.replicate j (-1) ++ List.replicate m 0) (N : Int) (j : Int)) r := by
  intro m
  induction m with
  | zero =>
    intro j hj h
    have : j = N := by omega
    subst this
    simpa using h
  | succ m ih =>
    intro j hj h
    refine Ev.step (fun k => ?_) (ih (j + 1) (by omega) h)
    simp only [span_far.l0]
    rw [if_pos (by omega), if_pos (by omega), if_pos (by simp; omega), wrap_succ j (by omega)]
    congr 1
    rw [Int.toNat_natCast, List.set_append_right _ _ (by simp), List.replicate_succ' (n := j), List.replicate_succ (n := m)]
    simp
theorem rd_replicate {N : Nat} {x v : Int} (hv : 0 ≤ v ∧ v < (N : Int)) : rd (List.replicate N x) v = x := by
  have h : v.toNat < N := by omega
  simp [rd, List.getD_eq_getElem?_getD, h]
theorem far_val {N : Nat} {l : List S31} {gl : Int} (hN : N ≤ 1000) (hl : l.length ≤ 1000) (ht : 0 ≤ gl ∧ gl < (N : Int)) : ∃ d, Inv (N : Int) l gl d [] ∧ Ev (fun k => span_far.f k (N : Int) l gl) d := by
  have hS : ∀ v, 0 ≤ v → v < (N : Int) → rd ((List.replicate N (-1 : Int)).set gl.toNat 0) v = if v = gl then 0 else -1 := fun v h0 h1 => by
    rw [rd_set (by simpa using ht) h0, rd_replicate ⟨h0, h1⟩]
  have hu := un_set (d := List.replicate N (-1 : Int)) (b := gl) (x := 0) (by simpa using ht) (by rw [rd_replicate ht]; omega) (by omega)
  have hu2 : un (List.replicate N (-1 : Int)) = N := by simp [un, List.countP_replicate]
  have I : Inv (N : Int) l gl ((List.replicate N (-1 : Int)).set gl.toNat 0) [gl] := by
    refine ⟨by simp, by rw [hS gl ht.1 ht.2, if_pos rfl], ?_, ?_, ?_, ?_, by simp, ?_, ?_⟩
    · intro v hv
      rw [List.mem_singleton] at hv
      subst hv
      exact ⟨ht, by rw [hS _ ht.1 ht.2, if_pos rfl]; omega⟩
    · intro v h0 h1 h2
      rw [hS v h0 h1] at h2 ⊢
      by_cases e : v = gl
      · rw [if_pos e]; exact e
      · rw [if_neg e] at h2; omega
    · intro v h0 h1
      rw [hS v h0 h1]
      split <;> omega
    · intro v h0 h1
      rw [hS v h0 h1]
      split <;> omega
    · intro h q' e v h0 h1
      simp only [List.cons.injEq] at e
      rw [← e.1, hS v h0 h1, hS gl ht.1 ht.2, if_pos rfl]
      split <;> omega
    · intro v h0 h1 h2
      rw [hS v h0 h1] at h2
      by_cases e : v = gl
      · exact .inl (by simp [e])
      · rw [if_neg e] at h2; omega
  obtain ⟨d, h1, h2⟩ := far_outer (n := (N : Int)) (gl := gl) (by omega) hl _ _ _ rfl (by simp; omega) I
  refine ⟨d, h1, ?_⟩
  have h3 : Ev (fun k => span_far.l0 k (N : Int) l gl (List.replicate N (-1)) (N : Int) (N : Int)) d := by
    refine Ev.step (fun k => ?_) h2
    simp only [span_far.l0]
    rw [if_neg (by omega), if_pos ht.1, if_pos (by simp; omega)]
  have h4 := far_fill (r := d) hN N 0 (by omega) h3
  refine Ev.congr (fun k => ?_) h4
  unfold span_far.f
  rw [if_pos (by omega), if_pos (by simp; omega)]
  simp
theorem far_complete {n : Int} {l : List S31} {gl : Int} {d : List Int} (ht : 0 ≤ gl ∧ gl < n) (I : Inv n l gl d []) : ∀ k v, reach n l gl k v → 0 ≤ rd d v ∧ rd d v ≤ k := by
  intro k
  induction k with
  | zero => intro v h; have e : v = gl := h; subst e; rw [I.hto]; simp
  | succ k ih =>
    intro v h
    rcases h with h | ⟨u, hu, hv, ha⟩
    · have := ih v h; omega
    · obtain ⟨h1, h2⟩ := ih u hu
      have hur := reach_in ht k u hu
      rcases I.done u hur.1 hur.2 h1 with h3 | h3
      · simp at h3
      · have := h3 v (mem_nbr.2 ⟨hv, ha⟩)
        omega
/-! ### the way -/
def next (n : Int) (l : List S31) (d : List Int) (a b : Int) : Prop := b ∈ nbr n l a ∧ rd d b = rd d a - 1 ∧ ∀ c ∈ nbr n l a, rd d c = rd d a - 1 → b ≤ c
def isWay (n : Int) (l : List S31) (gl : Int) (d : List Int) : List Int → Prop
  | [] => False
  | [a] => a = gl ∧ rd d a = 0
  | a :: b :: r => 0 < rd d a ∧ next n l d a b ∧ isWay n l gl d (b :: r)
theorem has_next {n : Int} {l : List S31} {gl : Int} {d : List Int} (ht : 0 ≤ gl ∧ gl < n) (I : Inv n l gl d []) {a : Int} (ha : 0 ≤ a ∧ a < n) (h0 : 0 < rd d a) : ∃ b ∈ nbr n l a, rd d b = rd d a - 1 := by
  have hs := I.sound a ha.1 ha.2 (by omega)
  obtain ⟨k, hk⟩ : ∃ k : Nat, (rd d a).toNat = k + 1 := ⟨(rd d a).toNat - 1, by omega⟩
  rw [hk] at hs
  rcases hs with h | ⟨u, hu, _, hadj⟩
  · have := far_complete ht I k a h; omega
  · have h1 := far_complete ht I k u hu
    have hur := reach_in ht k u hu
    refine ⟨u, mem_nbr.2 ⟨hur, adj_symm hadj⟩, ?_⟩
    rcases I.done u hur.1 hur.2 h1.1 with h3 | h3
    · simp at h3
    · have := h3 a (mem_nbr.2 ⟨ha, hadj⟩)
      omega
theorem way_inner {n : Int} {l : List S31} {gl : Int} {d : List Int} (hn : n ≤ 1000) (I : Inv n l gl d []) {a : Int} (ha : 0 ≤ a ∧ a < n) {out : List Int} (ho : out.length ≤ 5000) (B : List Int) (hB : B = nbr n l a) (hBl : B.length ≤ 1000)
    (hex : ∃ b ∈ B, rd d b = rd d a - 1) : ∀ (m i : Nat), i + m = B.length → (∀ (j : Nat) (_ : j < B.length), j < i → rd d B[j] ≠ rd d a - 1) →
    ∃ b, next n l d a b ∧ ∀ r, Ev (fun k => span_Way.l0 k n l gl d (out ++ [b]) b) r → Ev (fun k => span_Way.l1 k n l gl d out a B (B.length : Int) (i : Int)) r := by
  intro m
  induction m with
  | zero =>
    intro i hi hd
    exfalso
    obtain ⟨b, hb, he⟩ := hex
    obtain ⟨j, hj, rfl⟩ := List.getElem_of_mem hb
    exact hd j hj (by omega) he
  | succ m ih =>
    intro i hi hd
    have hiB : i < B.length := by omega
    obtain ⟨hbr, hadj⟩ := mem_nbr.1 (show B[i] ∈ nbr n l a by rw [← hB]; exact List.getElem_mem hiB)
    have hlen := I.len
    have hcap := I.cap a ha.1 ha.2
    have hlow := I.low a ha.1 ha.2
    have hw : wrap64 (rd d a - 1) = rd d a - 1 := by unfold wrap64; omega
    by_cases hv : rd d B[i] = rd d a - 1
    · refine ⟨B[i], ⟨by rw [← hB]; exact List.getElem_mem hiB, hv, fun c hc he => ?_⟩, fun r hr => ?_⟩
      · rw [← hB] at hc
        obtain ⟨j, hj, rfl⟩ := List.getElem_of_mem hc
        have hp : B.Pairwise (· < ·) := by rw [hB]; exact (nbr_both n l a).1
        by_cases e : j < i
        · exact absurd he (hd j hj e)
        · by_cases e2 : j = i
          · subst e2; omega
          · have := List.pairwise_iff_getElem.1 hp i j hiB hj (by omega)
            omega
      · refine Ev.step (fun k => ?_) hr
        simp only [span_Way.l1]
        rw [if_pos (by omega), if_pos (by omega), if_pos (by omega), rd_get hiB, if_pos hbr.1, if_pos (by omega), if_pos ha.1, if_pos (by omega), hw, if_pos hv, if_pos (by omega)]
    · obtain ⟨b, h1, h2⟩ := ih (i + 1) (by omega) (fun j hj hji => by
        by_cases e : j = i
        · subst e; exact hv
        · exact hd j hj (by omega))
      refine ⟨b, h1, fun r hr => ?_⟩
      refine Ev.step (fun k => ?_) (h2 r hr)
      simp only [span_Way.l1]
      rw [if_pos (by omega), if_pos (by omega), if_pos (by omega), rd_get hiB, if_pos hbr.1, if_pos (by omega), if_pos ha.1, if_pos (by omega), hw, if_neg hv, wrap_succ i (by omega)]
theorem way_walk {n : Int} {l : List S31} {gl : Int} {d : List Int} (hn : n ≤ 1000) (hl : l.length ≤ 1000) (ht : 0 ≤ gl ∧ gl < n) (I : Inv n l gl d []) : ∀ (K : Nat) (a : Int) (out : List Int), rd d a = K → 0 ≤ a ∧ a < n → out.length + K ≤ 5000 →
    ∃ w, isWay n l gl d (a :: w) ∧ w.length = K ∧ Ev (fun k => span_Way.l0 k n l gl d out a) (out ++ w, true) := by
  intro K
  induction K with
  | zero =>
    intro a out hk ha ho
    have h := I.sound a ha.1 ha.2 (by omega)
    rw [hk] at h
    have e : a = gl := h
    refine ⟨[], ⟨e, by simpa using hk⟩, rfl, Ev.step (f := fun _ => some (out ++ [], true)) (fun k => ?_) (Ev.now _)⟩
    simp only [span_Way.l0]
    rw [if_pos e, List.append_nil]
  | succ K ih =>
    intro a out hk ha ho
    obtain ⟨b, h1, h2⟩ := way_inner (out := out) hn I ha (by omega) (nbr n l a) rfl (by have := nbr_len n l a; omega) (has_next ht I ha (by omega)) (nbr n l a).length 0 (by omega) (fun j _ h => by omega)
    have hb := mem_nbr.1 h1.1
    obtain ⟨w, h3, h4, h5⟩ := ih b (out ++ [b]) (by rw [h1.2.1]; omega) hb.1 (by simp; omega)
    refine ⟨b :: w, ⟨by omega, h1, h3⟩, by simp [h4], ?_⟩
    have hne : ¬ a = gl := by intro e; subst e; have := I.hto; omega
    have h6 := h2 _ h5
    rw [List.append_assoc] at h6
    refine Ev.step (f := fun k => (span_beside.f k n l a).bind fun t => span_Way.l1 k n l gl d out a t (t.length : Int) 0) (fun k => ?_) (Ev.bind (beside_val n a hl) h6)
    simp only [span_Way.l0]
    rw [if_neg hne]
theorem way_length {n : Int} {l : List S31} {gl : Int} {d : List Int} : ∀ w a, isWay n l gl d (a :: w) → (w.length : Int) = rd d a := by
  intro w
  induction w with
  | nil => intro a h; rw [h.2]; simp
  | cons b w ih =>
    intro a h
    have := ih b h.2.2
    have e := h.2.1.2.1
    simp
    omega
/-! ### the law's own distances -/
structure Good (n : Int) (l : List S31) (gl : Int) (f : List Int) : Prop where
  len : (f.length : Int) = n
  hto : rd f gl = 0
  ok : ∀ v, 0 ≤ v → v < n → rd f v = 99 ∨ ((0 ≤ rd f v ∧ rd f v < 99) ∧ reach n l gl (rd f v).toNat v)
def comp (n : Int) (l : List S31) (gl : Int) (K : Nat) (f : List Int) : Prop := ∀ j, j ≤ K → ∀ v, reach n l gl j v → rd f v ≤ j
variable {n : Int} {l : List S31} {frm gl : Int} {w : List Int} {b : Bool}
theorem law_row (ht : 0 ≤ gl ∧ gl < n) (hn : n ≤ 10) (hl : l.length ≤ 1000) {i : Nat} (hi : (i : Int) < n) {K : Nat} (hK : K ≤ 20) : ∀ (m j : Nat) (f : List Int), ((j + m : Nat) : Int) = n → Good n l gl f → comp n l gl K f → (∀ u : Int, 0 ≤ u → u < j → reach n l gl K u → adj l i u → rd f i ≤ K + 1) →
    ∃ f', Good n l gl f' ∧ (∀ v, 0 ≤ v → rd f' v ≤ rd f v) ∧ (∀ u : Int, 0 ≤ u → u < n → reach n l gl K u → adj l i u → rd f' i ≤ K + 1) ∧
      ∀ r, Ev (fun k => croftlaw42_SpanWays.l2 k n l frm gl w b f' (K : Int) ((i + 1 : Nat) : Int)) r → Ev (fun k => croftlaw42_SpanWays.l3 k n l frm gl w b f (K : Int) (i : Int) (j : Int)) r := by
  intro m
  induction m with
  | zero =>
    intro j f hj G hc h
    refine ⟨f, G, fun _ _ => by omega, fun u h0 h1 => h u h0 (by omega), fun r hr => ?_⟩
    refine Ev.step (fun k => ?_) hr
    simp only [croftlaw42_SpanWays.l3]
    rw [if_neg (by omega), wrap_succ i (by omega)]
  | succ m ih =>
    intro j f hj G hc h
    have hlen := G.len
    have hjr := G.ok j (by omega) (by omega)
    have hir := G.ok i (by omega) (by omega)
    by_cases h1 : rd f (j : Int) < 99
    · obtain ⟨t, ht1, ht2⟩ := joined_val (l := l) (i : Int) (j : Int) hl
      have hw : wrap64 (rd f (j : Int) + 1) = rd f (j : Int) + 1 := by unfold wrap64; omega
      have hjr2 := hjr.resolve_left (by omega)
      by_cases h2 : t = true
      · have hadj := ht1.1 h2
        have hS : ∀ v, 0 ≤ v → rd (f.set (i : Int).toNat (mn (rd f i) (rd f j + 1))) v = if v = (i : Int) then mn (rd f i) (rd f j + 1) else rd f v := fun v hv => rd_set (by omega) hv
        have hmn : mn (rd f i) (rd f j + 1) ≤ rd f i ∧ mn (rd f i) (rd f j + 1) ≤ rd f j + 1 := by unfold mn; split <;> omega
        have hcase : mn (rd f i) (rd f j + 1) = rd f i ∨ mn (rd f i) (rd f j + 1) = rd f j + 1 := by unfold mn; split <;> omega
        have G2 : Good n l gl (f.set (i : Int).toNat (mn (rd f i) (rd f j + 1))) := by
          have hto0 : 0 ≤ gl := ht.1
          refine ⟨by rw [List.length_set]; exact hlen, ?_, fun v h0 hv => ?_⟩
          · rw [hS gl hto0]
            by_cases e : gl = (i : Int)
            · rw [if_pos e, ← e]
              have := G.hto
              rw [← e] at hcase hmn hir
              unfold mn
              split <;> omega
            · rw [if_neg e]; exact G.hto
          · rw [hS v h0]
            by_cases e : v = (i : Int)
            · rw [if_pos e]
              rcases hcase with e2 | e2
              · rw [e2, e]; exact hir
              · rw [e2]
                by_cases e3 : rd f j + 1 = 99
                · exact .inl e3
                · refine .inr ⟨by omega, ?_⟩
                  have e4 : (rd f (j : Int) + 1).toNat = (rd f (j : Int)).toNat + 1 := by omega
                  rw [e4, e]
                  exact .inr ⟨j, hjr2.2, by omega, adj_symm hadj⟩
            · rw [if_neg e]; exact G.ok v h0 hv
        have hle : ∀ v, 0 ≤ v → rd (f.set (i : Int).toNat (mn (rd f i) (rd f j + 1))) v ≤ rd f v := fun v hv => by
          rw [hS v hv]
          split
          · rename_i e; rw [e]; exact hmn.1
          · omega
        have c2 : comp n l gl K (f.set (i : Int).toNat (mn (rd f i) (rd f j + 1))) := fun q hq v hv => by
          have := hc q hq v hv
          have := hle v (reach_in ht _ v hv).1
          omega
        obtain ⟨f', g1, g2, g3, g4⟩ := ih (j + 1) _ (by omega) G2 c2 (fun u h0 hu hr ha => by
          have hb := hle i (by omega)
          by_cases e : u = (j : Int)
          · subst e
            have := hc K (by omega) _ hr
            rw [hS i (by omega), if_pos rfl]
            omega
          · have := h u h0 (by omega) hr ha
            omega)
        refine ⟨f', g1, fun v hv => by have := g2 v hv; have := hle v hv; omega, g3, fun r hr => ?_⟩
        refine Ev.step (f := fun k => (croftlaw42_joined.f k l i j).bind fun t => if t = true then croftlaw42_SpanWays.l3 k n l frm gl w b (f.set (i : Int).toNat (mn (rd f i) (rd f j + 1))) (K : Int) (i : Int) ((j + 1 : Nat) : Int) else croftlaw42_SpanWays.l3 k n l frm gl w b f (K : Int) (i : Int) ((j + 1 : Nat) : Int)) (fun k => ?_) (Ev.bind ht2 ?_)
        · simp only [croftlaw42_SpanWays.l3]
          rw [if_pos (by omega), if_pos (by omega), if_pos (by omega), if_pos h1, hw, wrap_succ j (by omega)]
          have q1 : 0 ≤ (i : Int) := by omega
          have q2 : (i : Int) < (f.length : Int) := by omega
          simp only [if_pos q1, if_pos q2]
        · simp only [if_pos h2]
          exact g4 r hr
      · obtain ⟨f', g1, g2, g3, g4⟩ := ih (j + 1) f (by omega) G hc (fun u h0 hu hr ha => by
          by_cases e : u = (j : Int)
          · subst e
            exact absurd (ht1.2 ha) h2
          · exact h u h0 (by omega) hr ha)
        refine ⟨f', g1, g2, g3, fun r hr => ?_⟩
        refine Ev.step (f := fun k => (croftlaw42_joined.f k l i j).bind fun t => if t = true then croftlaw42_SpanWays.l3 k n l frm gl w b (f.set (i : Int).toNat (mn (rd f i) (rd f j + 1))) (K : Int) (i : Int) ((j + 1 : Nat) : Int) else croftlaw42_SpanWays.l3 k n l frm gl w b f (K : Int) (i : Int) ((j + 1 : Nat) : Int)) (fun k => ?_) (Ev.bind ht2 ?_)
        · simp only [croftlaw42_SpanWays.l3]
          rw [if_pos (by omega), if_pos (by omega), if_pos (by omega), if_pos h1, hw, wrap_succ j (by omega)]
          have q1 : 0 ≤ (i : Int) := by omega
          have q2 : (i : Int) < (f.length : Int) := by omega
          simp only [if_pos q1, if_pos q2]
        · simp only [if_neg h2]
          exact g4 r hr
    · obtain ⟨f', g1, g2, g3, g4⟩ := ih (j + 1) f (by omega) G hc (fun u h0 hu hr ha => by
        by_cases e : u = (j : Int)
        · subst e
          have := hc K (by omega) _ hr
          omega
        · exact h u h0 (by omega) hr ha)
      refine ⟨f', g1, g2, g3, fun r hr => ?_⟩
      refine Ev.step (fun k => ?_) (g4 r hr)
      simp only [croftlaw42_SpanWays.l3]
      rw [if_pos (by omega), if_pos (by omega), if_pos (by omega), if_neg h1, wrap_succ j (by omega)]
theorem law_rows (ht : 0 ≤ gl ∧ gl < n) (hn : n ≤ 10) (hl : l.length ≤ 1000) {K : Nat} (hK : K ≤ 20) : ∀ (m i : Nat) (f : List Int), ((i + m : Nat) : Int) = n → Good n l gl f → comp n l gl K f → (∀ v : Int, 0 ≤ v → v < i → reach n l gl (K + 1) v → rd f v ≤ K + 1) →
    ∃ f', Good n l gl f' ∧ comp n l gl (K + 1) f' ∧
      ∀ r, Ev (fun k => croftlaw42_SpanWays.l1 k n l frm gl w b f' ((K + 1 : Nat) : Int)) r → Ev (fun k => croftlaw42_SpanWays.l2 k n l frm gl w b f (K : Int) (i : Int)) r := by
  intro m
  induction m with
  | zero =>
    intro i f hi G hc h
    refine ⟨f, G, fun j hj v hv => ?_, fun r hr => ?_⟩
    · by_cases e : j ≤ K
      · exact hc j e v hv
      · have e2 : j = K + 1 := by omega
        subst e2
        have hvr := reach_in ht _ v hv
        have := h v hvr.1 (by omega) hv
        omega
    · refine Ev.step (fun k => ?_) hr
      simp only [croftlaw42_SpanWays.l2]
      rw [if_neg (by omega), wrap_succ K (by omega)]
  | succ m ih =>
    intro i f hi G hc h
    obtain ⟨f1, g1, g2, g3, g4⟩ := law_row (frm := frm) (w := w) (b := b) ht hn hl (i := i) (by omega) hK n.toNat 0 f (by omega) G hc (fun u h0 hu => by omega)
    have c1 : comp n l gl K f1 := fun q hq v hv => by
      have := hc q hq v hv
      have := g2 v (reach_in ht _ v hv).1
      omega
    obtain ⟨f2, k1, k2, k3⟩ := ih (i + 1) f1 (by omega) g1 c1 (fun v h0 hv hr => by
      by_cases e : v = (i : Int)
      · subst e
        rcases hr with hr | ⟨u, hu, _, ha⟩
        · have := c1 K (by omega) _ hr; omega
        · have hur := reach_in ht _ u hu
          exact g3 u hur.1 hur.2 hu (adj_symm ha)
      · have := h v h0 (by omega) hr
        have := g2 v h0
        omega)
    refine ⟨f2, k1, k2, fun r hr => ?_⟩
    refine Ev.step (fun k => ?_) (g4 r (k3 r hr))
    simp only [croftlaw42_SpanWays.l2]
    rw [if_pos (by omega)]
    rfl
theorem law_rounds (ht : 0 ≤ gl ∧ gl < n) (hn : n ≤ 10) (hl : l.length ≤ 1000) : ∀ (m K : Nat) (f : List Int), ((K + m : Nat) : Int) = n → Good n l gl f → comp n l gl K f →
    ∃ f', Good n l gl f' ∧ comp n l gl n.toNat f' ∧ ∀ r, Ev (fun k => croftlaw42_SpanWays.l1 k n l frm gl w b f' n) r → Ev (fun k => croftlaw42_SpanWays.l1 k n l frm gl w b f (K : Int)) r := by
  intro m
  induction m with
  | zero =>
    intro K f hK G hc
    have e : (K : Int) = n := by omega
    exact ⟨f, G, by rw [show n.toNat = K by omega]; exact hc, fun r hr => by rw [e]; exact hr⟩
  | succ m ih =>
    intro K f hK G hc
    obtain ⟨f1, g1, g2, g3⟩ := law_rows (frm := frm) (w := w) (b := b) ht hn hl (K := K) (by omega) n.toNat 0 f (by omega) G hc (fun v h0 hv => by omega)
    obtain ⟨f2, k1, k2, k3⟩ := ih (K + 1) f1 (by omega) g1 g2
    refine ⟨f2, k1, k2, fun r hr => ?_⟩
    refine Ev.step (fun k => ?_) (g3 r (k3 r hr))
    simp only [croftlaw42_SpanWays.l1]
    rw [if_pos (by omega)]
    rfl
theorem law_fill {N : Nat} (hN : N ≤ 1000) {r : Bool} : ∀ (m j : Nat), j + m = N →
    Ev (fun k => croftlaw42_SpanWays.l0 k (N : Int) l frm gl w b (List.replicate N 99) (N : Int)) r →
    Ev (fun k => croftlaw42_SpanWays.l0 k (N : Int) l frm gl w b (List.replicate j 99 ++ List.replicate m 0) (j : Int)) r := by
  intro m
  induction m with
  | zero =>
    intro j hj h
    have : j = N := by omega
    subst this
    simpa using h
  | succ m ih =>
    intro j hj h
    refine Ev.step (fun k => ?_) (ih (j + 1) (by omega) h)
    simp only [croftlaw42_SpanWays.l0]
    rw [if_pos (by omega), if_pos (by omega), if_pos (by simp; omega), wrap_succ j (by omega)]
    congr 1
    rw [Int.toNat_natCast, List.set_append_right _ _ (by simp), List.replicate_succ' (n := j), List.replicate_succ (n := m)]
    simp
/-- The law's distances are the way's. -/
theorem law_dist {d f : List Int} (ht : 0 ≤ gl ∧ gl < n) (hn : n ≤ 10) (I : Inv n l gl d []) (G : Good n l gl f) (hc : comp n l gl n.toNat f) {v : Int} (hv : 0 ≤ v ∧ v < n) : rd f v = if rd d v < 0 then 99 else rd d v := by
  by_cases h : rd d v < 0
  · rw [if_pos h]
    rcases G.ok v hv.1 hv.2 with h2 | ⟨h2, h3⟩
    · exact h2
    · have := far_complete ht I _ v h3
      omega
  · rw [if_neg h]
    have hr := I.sound v hv.1 hv.2 (by omega)
    have hcap := I.cap v hv.1 hv.2
    have h1 := hc _ (by omega) v hr
    rcases G.ok v hv.1 hv.2 with h2 | ⟨h2, h3⟩
    · omega
    · have := far_complete ht I _ v h3
      omega
/-! ### the law's look at the way -/
def isNx (_n : Int) (l : List S31) (f : List Int) (a c : Int) : Prop := 0 < rd f a ∧ rd f c = rd f a - 1 ∧ adj l a c
theorem law_look (hn : n ≤ 10) (hl : l.length ≤ 1000) {f : List Int} (G : Good n l gl f) {i : Nat} {a tgt : Int} (hi : i < w.length) (hwl : w.length ≤ 1000) (ha : 0 ≤ a ∧ a < n) (hwi : rd w (i : Int) = a) {r : Bool}
    (hr : Ev (fun k => croftlaw42_SpanWays.l4 k n l frm gl w b f tgt ((i + 1 : Nat) : Int)) r) : ∀ (m : Nat) (cur : Int), (m : Int) ≤ n →
    ((tgt = cur ∧ ∀ c : Int, 0 ≤ c → c < m → ¬ isNx n l f a c) ∨ ((0 ≤ tgt ∧ tgt < m) ∧ isNx n l f a tgt ∧ ∀ c : Int, 0 ≤ c → c < tgt → ¬ isNx n l f a c)) →
    Ev (fun k => croftlaw42_SpanWays.l5 k n l frm gl w b f cur (i : Int) ((m : Int) - 1)) r := by
  intro m
  induction m with
  | zero =>
    intro cur hm h
    rcases h with ⟨e, _⟩ | ⟨h1, _⟩
    · subst e
      refine Ev.step (fun k => ?_) hr
      simp only [croftlaw42_SpanWays.l5]
      rw [if_neg (by omega), wrap_succ i (by omega)]
    · omega
  | succ m ih =>
    intro cur hm h
    have hlen := G.len
    have e1 : ((m + 1 : Nat) : Int) - 1 = (m : Int) := by omega
    have hw1 : wrap64 ((m : Int) - 1) = (m : Int) - 1 := by unfold wrap64; omega
    have hok := G.ok a ha.1 ha.2
    have hw2 : wrap64 (rd f a - 1) = rd f a - 1 := by unfold wrap64; omega
    rw [e1]
    have hno : ¬ isNx n l f a (m : Int) → Ev (fun k => croftlaw42_SpanWays.l5 k n l frm gl w b f cur (i : Int) ((m : Int) - 1)) r := fun hn_ => by
      refine ih cur (by omega) ?_
      rcases h with ⟨e, h2⟩ | ⟨h1, h2, h3⟩
      · exact .inl ⟨e, fun c h0 hc => h2 c h0 (by omega)⟩
      · refine .inr ⟨⟨h1.1, ?_⟩, h2, h3⟩
        have : tgt ≠ (m : Int) := by intro e; rw [e] at h2; exact hn_ h2
        omega
    have hyes : isNx n l f a (m : Int) → Ev (fun k => croftlaw42_SpanWays.l5 k n l frm gl w b f (m : Int) (i : Int) ((m : Int) - 1)) r := fun hy => by
      refine ih (m : Int) (by omega) ?_
      rcases h with ⟨e, h2⟩ | ⟨h1, h2, h3⟩
      · exact absurd hy (h2 m (by omega) (by omega))
      · by_cases e : tgt = (m : Int)
        · exact .inl ⟨e, fun c h0 hc => h3 c h0 (by omega)⟩
        · exact .inr ⟨⟨h1.1, by omega⟩, h2, h3⟩
    have hj8 : ∀ t : Bool, (t = true ↔ isNx n l f a (m : Int)) → Ev (fun k => croftlaw42_SpanWays.j8 k n l frm gl w b f cur (i : Int) (m : Int) t) r := fun t htt => by
      by_cases e : t = true
      · refine Ev.step (fun k => ?_) (hyes (htt.1 e))
        simp only [croftlaw42_SpanWays.j8]
        rw [if_pos e, hw1]
      · refine Ev.step (fun k => ?_) (hno (fun h => e (htt.2 h)))
        simp only [croftlaw42_SpanWays.j8]
        rw [if_neg e, hw1]
    have q1 : 0 ≤ (i : Int) := by omega
    have q2 : (i : Int) < (w.length : Int) := by omega
    have q3 : 0 ≤ (m : Int) := by omega
    have q4 : (m : Int) < (f.length : Int) := by omega
    have q5 : a < (f.length : Int) := by omega
    by_cases h1 : rd f a > 0
    · by_cases h2 : rd f (m : Int) = rd f a - 1
      · obtain ⟨t, ht1, ht2⟩ := joined_val (l := l) a (m : Int) hl
        refine Ev.step (f := fun k => (croftlaw42_joined.f k l a m).bind fun t => croftlaw42_SpanWays.j8 k n l frm gl w b f cur (i : Int) (m : Int) t) (fun k => ?_) (Ev.bind ht2 (hj8 t ⟨fun e => ⟨h1, h2, ht1.1 e⟩, fun h => ht1.2 h.2.2⟩))
        simp only [croftlaw42_SpanWays.l5, hwi, hw2, if_pos q1, if_pos q2, if_pos q3, if_pos q4, if_pos q5, if_pos ha.1, if_pos h1, if_pos h2]
      · refine Ev.step (fun k => ?_) (hj8 false ⟨fun e => by simp at e, fun h => absurd h.2.1 h2⟩)
        simp only [croftlaw42_SpanWays.l5, hwi, hw2, if_pos q1, if_pos q2, if_pos q3, if_pos q4, if_pos q5, if_pos ha.1, if_pos h1, if_neg h2]
    · refine Ev.step (fun k => ?_) (hj8 false ⟨fun e => by simp at e, fun h => absurd h.1 h1⟩)
      simp only [croftlaw42_SpanWays.l5, hwi, hw2, if_pos q1, if_pos q2, if_pos q3, if_pos q4, if_pos q5, if_pos ha.1, if_neg h1]
theorem law_way {d f : List Int} (ht : 0 ≤ gl ∧ gl < n) (hn : n ≤ 10) (hl : l.length ≤ 1000) (hf : 0 ≤ frm ∧ frm < n) (I : Inv n l gl d []) (G : Good n l gl f) (hc : comp n l gl n.toNat f) (hwl : w.length ≤ 1000) (hw : (w.length : Int) = rd f frm + 1) :
    ∀ (rest : List Int) (a : Int) (i : Nat), w.drop i = a :: rest → 0 ≤ a ∧ a < n → 0 ≤ rd d a → isWay n l gl d (a :: rest) → Ev (fun k => croftlaw42_SpanWays.l4 k n l frm gl w true f a (i : Int)) true := by
  have hD : ∀ v, 0 ≤ v → v < n → 0 ≤ rd d v → rd f v = rd d v := fun v h0 h1 h2 => by
    rw [law_dist ht hn I G hc ⟨h0, h1⟩, if_neg (by omega)]
  have hlen := G.len
  intro rest
  induction rest with
  | nil =>
    intro a i hdrop har hda hway
    have hi : i < w.length := by
      have := congrArg List.length hdrop
      simp at this
      omega
    have hwi : rd w (i : Int) = a := by
      rw [rd_get hi]
      rw [List.drop_eq_getElem_cons hi] at hdrop
      simp only [List.cons.injEq] at hdrop
      exact hdrop.1
    have hil : i + 1 = w.length := by
      have := congrArg List.length hdrop
      simp at this
      omega
    have e : (w.length : Int) = ((i + 1 : Nat) : Int) := by omega
    have hend : Ev (fun k => croftlaw42_SpanWays.l4 k n l frm gl w true f a ((i + 1 : Nat) : Int)) true := by
      refine Ev.step (f := fun _ => some true) (fun k => ?_) (Ev.now _)
      have hw1 : wrap64 (rd f frm + 1) = (w.length : Int) := by rw [← hw]; unfold wrap64; omega
      have hw2 : wrap64 ((w.length : Int) - 1) = (i : Int) := by unfold wrap64; omega
      simp only [croftlaw42_SpanWays.l4]
      rw [if_neg (by omega), if_pos trivial, if_pos hf.1, if_pos (by omega), hw1, if_pos rfl, hw2, if_pos (by omega), if_pos (by omega), hwi, hway.1]
      simp
    have h5 := law_look (frm := frm) (b := true) hn hl G (a := a) (tgt := a) hi hwl har hwi hend n.toNat a (by omega) (.inl ⟨rfl, fun c h0 h1 hx => by
      have := hx.1
      rw [hD a har.1 har.2 hda, hway.2] at this
      omega⟩)
    refine Ev.step (fun k => ?_) h5
    simp only [croftlaw42_SpanWays.l4]
    rw [if_pos (by omega), if_pos (by omega), if_pos hwi]
    have e2 : ((n.toNat : Nat) : Int) - 1 = wrap64 (n - 1) := by unfold wrap64; omega
    rw [e2]
  | cons c rest ih =>
    intro a i hdrop har hda hway
    obtain ⟨h1, h2, h3⟩ := hway
    have hi : i < w.length := by
      have := congrArg List.length hdrop
      simp at this
      omega
    have hd2 := hdrop
    rw [List.drop_eq_getElem_cons hi] at hd2
    simp only [List.cons.injEq] at hd2
    have hwi : rd w (i : Int) = a := by rw [rd_get hi]; exact hd2.1
    obtain ⟨hcr, hca⟩ := mem_nbr.1 h2.1
    have hcd := h2.2.1
    have hend := ih c (i + 1) hd2.2 hcr (by omega) h3
    have hfa := hD a har.1 har.2 hda
    have h5 := law_look (frm := frm) (b := true) hn hl G (a := a) (tgt := c) hi hwl har hwi hend n.toNat a (by omega) (.inr ⟨⟨hcr.1, by omega⟩, ⟨by rw [hfa]; exact h1, by rw [hD c hcr.1 hcr.2 (by omega), hfa]; exact hcd, hca⟩, fun v h0 hv hx => by
      have hx2 := hx.2.1
      have hvr : 0 ≤ v ∧ v < n := ⟨h0, by omega⟩
      have hx3 := law_dist ht hn I G hc hvr
      have hcapa := I.cap a har.1 har.2
      have hv0 : ¬ rd d v < 0 := fun hlt => by rw [if_pos hlt] at hx3; omega
      rw [if_neg hv0] at hx3
      have := h2.2.2 v (mem_nbr.2 ⟨hvr, hx.2.2⟩) (by omega)
      omega⟩)
    refine Ev.step (fun k => ?_) h5
    simp only [croftlaw42_SpanWays.l4]
    rw [if_pos (by omega), if_pos (by omega), if_pos hwi]
    have e2 : ((n.toNat : Nat) : Int) - 1 = wrap64 (n - 1) := by unfold wrap64; omega
    rw [e2]
/-! ### the law -/
theorem way_out {N : Nat} (hN : N ≤ 10) (h : frm < 0 ∨ frm ≥ (N : Int) ∨ gl < 0 ∨ gl ≥ (N : Int)) : Ev (fun k => span_Way.f k (N : Int) l frm gl) ([], false) := by
  have e : mn (mx (N : Int) 0) 4096 = (N : Int) := by unfold mn mx; (repeat' split) <;> omega
  have h1 : Ev (fun k => span_Way.j0 k (N : Int) l frm gl true) ([], false) := by
    refine Ev.step (f := fun _ => some ([], false)) (fun k => ?_) (Ev.now _)
    simp only [span_Way.j0]
    rw [if_pos trivial]
  refine Ev.congr (fun k => ?_) h1
  unfold span_Way.f
  rw [e]
  by_cases c1 : frm < 0
  · rw [if_pos c1]
  · rw [if_neg c1]
    by_cases c2 : frm ≥ (N : Int)
    · rw [if_pos c2]
    · rw [if_neg c2]
      by_cases c3 : gl < 0
      · rw [if_pos c3]
      · rw [if_neg c3]
        have c4 : gl ≥ (N : Int) := by omega
        rw [decide_eq_true c4]
theorem way_val {N : Nat} (hN : N ≤ 10) (hl : l.length ≤ 1000) (hf : 0 ≤ frm ∧ frm < (N : Int)) (ht : 0 ≤ gl ∧ gl < (N : Int)) : ∃ d, Inv (N : Int) l gl d [] ∧ (rd d frm < 0 → Ev (fun k => span_Way.f k (N : Int) l frm gl) ([], false)) ∧
    (0 ≤ rd d frm → ∃ w, isWay (N : Int) l gl d (frm :: w) ∧ Ev (fun k => span_Way.f k (N : Int) l frm gl) (frm :: w, true)) := by
  have e : mn (mx (N : Int) 0) 4096 = (N : Int) := by unfold mn mx; (repeat' split) <;> omega
  obtain ⟨d, I, hd⟩ := far_val (N := N) (l := l) (gl := gl) (by omega) hl ht
  have hlen := I.len
  have hF : ∀ k, span_Way.f k (N : Int) l frm gl = span_Way.j0 k (N : Int) l frm gl false := fun k => by
    unfold span_Way.f
    rw [e, if_neg (by omega), if_neg (by omega), if_neg (by omega), decide_eq_false (by omega)]
  refine ⟨d, I, fun h => ?_, fun h => ?_⟩
  · refine Ev.congr hF ?_
    refine Ev.step (f := fun k => (span_far.f k (N : Int) l gl).bind fun t => (if 0 ≤ frm then (if frm < (t.length : Int) then (if (rd t frm) < 0 then (some (([] : List Int), false)) else (span_Way.l0 k (N : Int) l gl t (([frm] : List Int)) frm)) else (none)) else (none))) (fun k => ?_) (Ev.bind hd ?_)
    · simp only [span_Way.j0]
      rw [if_neg (by simp)]
    have q : frm < (d.length : Int) := by omega
    simp only [if_pos hf.1, if_pos q, if_pos h]
    exact Ev.now _
  · obtain ⟨w, h1, h2, h3⟩ := way_walk (by omega) hl ht I (rd d frm).toNat frm [frm] (by omega) hf (by have := I.cap frm hf.1 hf.2; simp; omega)
    refine ⟨w, h1, ?_⟩
    refine Ev.congr hF ?_
    refine Ev.step (f := fun k => (span_far.f k (N : Int) l gl).bind fun t => (if 0 ≤ frm then (if frm < (t.length : Int) then (if (rd t frm) < 0 then (some (([] : List Int), false)) else (span_Way.l0 k (N : Int) l gl t (([frm] : List Int)) frm)) else (none)) else (none))) (fun k => ?_) (Ev.bind hd ?_)
    · simp only [span_Way.j0]
      rw [if_neg (by simp)]
    have q : frm < (d.length : Int) := by omega
    have q2 : ¬ rd d frm < 0 := by omega
    simp only [if_pos hf.1, if_pos q, if_neg q2]
    exact h3
theorem law_fill_good {N : Nat} (ht : 0 ≤ gl ∧ gl < (N : Int)) : Good (N : Int) l gl ((List.replicate N (99 : Int)).set gl.toNat 0) ∧ comp (N : Int) l gl 0 ((List.replicate N (99 : Int)).set gl.toNat 0) := by
  have hS : ∀ v, 0 ≤ v → v < (N : Int) → rd ((List.replicate N (99 : Int)).set gl.toNat 0) v = if v = gl then 0 else 99 := fun v h0 h1 => by
    rw [rd_set (by simpa using ht) h0, rd_replicate ⟨h0, h1⟩]
  refine ⟨⟨by simp, by rw [hS gl ht.1 ht.2, if_pos rfl], fun v h0 h1 => ?_⟩, fun j hj v hv => ?_⟩
  · rw [hS v h0 h1]
    by_cases e : v = gl
    · rw [if_pos e]
      exact .inr ⟨by omega, e⟩
    · rw [if_neg e]
      exact .inl rfl
  · have e : j = 0 := by omega
    subst e
    have e : v = gl := hv
    subst e
    rw [hS _ ht.1 ht.2, if_pos rfl]
    simp
theorem law_core {N : Nat} (hN : N ≤ 10) (hl : l.length ≤ 1000) : Ev (fun k => croftlaw42_SpanWays.j0 k (N : Int) l frm gl) true := by
  by_cases hr : (0 ≤ frm ∧ frm < (N : Int)) ∧ (0 ≤ gl ∧ gl < (N : Int))
  · obtain ⟨hf, ht⟩ := hr
    obtain ⟨d, I, hneg, hpos⟩ := way_val (l := l) hN hl hf ht
    have hcap := I.cap frm hf.1 hf.2
    have hlen := I.len
    have main : ∀ (w : List Int) (b : Bool), Ev (fun k => croftlaw42_SpanWays.j1 k (N : Int) l frm gl w b false) true → Ev (fun k => span_Way.f k (N : Int) l frm gl) (w, b) → Ev (fun k => croftlaw42_SpanWays.j0 k (N : Int) l frm gl) true := fun w b h1 h2 => by
      refine Ev.step (fun k => rfl) ?_
      refine Ev.bind h2 ?_
      have q1 : ¬ frm < 0 := by omega
      have q2 : ¬ frm ≥ (N : Int) := by omega
      have q3 : ¬ gl < 0 := by omega
      have q4 : ¬ gl ≥ (N : Int) := by omega
      simp only [if_neg q1, if_neg q2, if_neg q3, decide_eq_false q4]
      exact h1
    have pre : ∀ (w : List Int) (b : Bool), (∀ f, Good (N : Int) l gl f → comp (N : Int) l gl N f → Ev (fun k => croftlaw42_SpanWays.l1 k (N : Int) l frm gl w b f (N : Int)) true) → Ev (fun k => croftlaw42_SpanWays.j1 k (N : Int) l frm gl w b false) true := fun w b h => by
      obtain ⟨g, c⟩ := law_fill_good (l := l) ht
      obtain ⟨f', g1, g2, g3⟩ := law_rounds (frm := frm) (w := w) (b := b) ht (by omega) hl N 0 _ (by omega) g c
      have h1 := g3 true (h f' g1 (by rw [Int.toNat_natCast] at g2; exact g2))
      have h2 : Ev (fun k => croftlaw42_SpanWays.l0 k (N : Int) l frm gl w b (List.replicate N 99) (N : Int)) true := by
        refine Ev.step (fun k => ?_) h1
        simp only [croftlaw42_SpanWays.l0]
        rw [if_neg (by omega), if_pos ht.1, if_pos (by simp; omega)]
        rfl
      have h3 := law_fill (by omega) N 0 (by omega) h2
      refine Ev.step (fun k => ?_) h3
      simp only [croftlaw42_SpanWays.j1]
      rw [if_neg (by simp), if_pos (by omega), if_pos (by omega), Int.toNat_natCast, List.replicate_zero, List.nil_append]
      rfl
    by_cases h : rd d frm < 0
    · refine main _ _ (pre _ _ fun f G c => ?_) (hneg h)
      have hD := law_dist ht (by omega) I G (by rw [Int.toNat_natCast]; exact c) hf
      rw [if_pos h] at hD
      have hfl := G.len
      refine Ev.step (f := fun _ => some true) (fun k => ?_) (Ev.now _)
      simp only [croftlaw42_SpanWays.l1]
      rw [if_neg (by omega), if_pos hf.1, if_pos (by omega), if_pos hD, if_neg (by simp)]
      rfl
    · obtain ⟨w, h1, h2⟩ := hpos (by omega)
      refine main _ _ (pre _ _ fun f G c => ?_) h2
      have c' : comp (N : Int) l gl (N : Int).toNat f := by rw [Int.toNat_natCast]; exact c
      have hD := law_dist ht (by omega) I G c' hf
      rw [if_neg h] at hD
      have hfl := G.len
      have hwl := way_length w frm h1
      have h3 := law_way (w := frm :: w) ht (by omega) hl hf I G c' (by simp; omega) (by simp; omega) w frm 0 rfl hf (by omega) h1
      refine Ev.step (fun k => ?_) h3
      simp only [croftlaw42_SpanWays.l1]
      rw [if_neg (by omega), if_pos hf.1, if_pos (by omega), if_neg (by omega)]
      rfl
  · have h1 := way_out (l := l) (frm := frm) (gl := gl) hN (by omega)
    have h2 : Ev (fun k => croftlaw42_SpanWays.j1 k (N : Int) l frm gl [] false true) true := by
      refine Ev.step (f := fun _ => some true) (fun k => ?_) (Ev.now _)
      simp only [croftlaw42_SpanWays.j1]
      rw [if_pos trivial, if_neg (by simp)]
      rfl
    refine Ev.step (fun k => rfl) ?_
    refine Ev.bind h1 ?_
    by_cases c1 : frm < 0
    · simp only [if_pos c1]; exact h2
    · simp only [if_neg c1]
      by_cases c2 : frm ≥ (N : Int)
      · simp only [if_pos c2]; exact h2
      · simp only [if_neg c2]
        by_cases c3 : gl < 0
        · simp only [if_pos c3]; exact h2
        · simp only [if_neg c3]
          rw [decide_eq_true (show gl ≥ (N : Int) by omega)]; exact h2
theorem SpanWays : SpanWays_Pure := by
  intro a0 l a2 a3 h0 hl hw h2 h3
  have hmod : ∃ N : Nat, N ≤ 10 ∧ Int.tmod (wrap64 ((Int.tmod a0 10) + 10)) 10 = (N : Int) := by
    have e1 : -10 < Int.tmod a0 10 ∧ Int.tmod a0 10 < 10 := by
      have := Int.tmod_lt_of_pos a0 (b := 10) (by omega)
      have := Int.lt_tmod_of_pos a0 (b := 10) (by omega)
      omega
    have e2 : wrap64 ((Int.tmod a0 10) + 10) = Int.tmod a0 10 + 10 := by unfold wrap64; omega
    rw [e2]
    have e3 := Int.tmod_lt_of_pos (Int.tmod a0 10 + 10) (b := 10) (by omega)
    have e4 := Int.tmod_nonneg 10 (show 0 ≤ Int.tmod a0 10 + 10 by omega)
    exact ⟨(Int.tmod (Int.tmod a0 10 + 10) 10).toNat, by omega, by omega⟩
  obtain ⟨N, hN, e⟩ := hmod
  have main : Ev (fun k => croftlaw42_SpanWays.f k a0 l a2 a3) true := by
    unfold croftlaw42_SpanWays.f
    rw [e]
    refine Ev.bind alive_val ?_
    by_cases h : (l.length : Int) > 20
    · have h' : 20 ≤ (l.length : Int) := by omega
      simp only [if_pos, if_pos h, if_pos h']
      exact law_core hN (by rw [List.length_take]; omega)
    · simp only [if_pos, if_neg h]
      exact law_core hN (by omega)
  exact main.rounds
end Go.Proofs.Ytjalbacdcfbmgaa.Pure
