-- Written by xprint.py, a program of this work, round the kit's print.
/- slices.Sort over uint64 in the print's own form: by the library's own walk. -/
import Derived.Test.YtjehhfhkbboamaaPx0
import Derived.Test.YtjehhfhkbboamaaPx3
import Derived.Test.YtjehhfhkbboamaaPx4
import Derived.Test.YtjehhfhkbboamaaXRow
import Derived.Test.YtjehhfhkbboamaaShelf
import Derived.Test.YtjehhfhkbboamaaXSf
import Derived.Shelf.Small.Bits
import Derived.Shelf.SlicesE.Compact
namespace Go.Proofs.Ytjehhfhkbboamaa.P
open Go.RowKit Go.Proofs.YtjehhfhkbboamaaW.PrintWords Go.Proofs.YtjehhfhkbboamaaW.PrintLast Go.Proofs.YtjehhfhkbboamaaW.PrintMore
attribute [local go_sem] max2_int min2_int max_two min_two max_three min_three max_four min_four   -- for this text's walks alone
attribute [local go_sem] add64_run carryOk_zero   -- for this text's walks alone
set_option linter.unusedVariables false
set_option linter.unusedSimpArgs false

/-- An element into a row that falls. -/
def bub {α : Type} (lt : α → α → Bool) (x : α) : List α → List α
  | [] => [x]
  | y :: r => if lt x y = true then y :: bub lt x r else x :: y :: r
theorem bub_perm {α : Type} (lt : α → α → Bool) (x : α) : ∀ (r : List α), (bub lt x r).Perm (x :: r) := by
  intro r
  induction r with
  | nil => exact List.Perm.refl _
  | cons y r ih =>
    unfold bub
    split
    · exact (List.Perm.cons y ih).trans (List.Perm.swap x y r)
    · exact List.Perm.refl _
def isortR {α : Type} (lt : α → α → Bool) (rp l : List α) : List α := l.foldl (fun acc x => bub lt x acc) rp
theorem isortR_perm {α : Type} (lt : α → α → Bool) : ∀ (l rp : List α), (isortR lt rp l).Perm (rp ++ l) := by
  intro l
  induction l with
  | nil => intro rp; simp [isortR]
  | cons x l ih =>
    intro rp
    have h1 := ih (bub lt x rp)
    have h2 : (bub lt x rp ++ l).Perm (rp ++ x :: l) := ((bub_perm lt x rp).append_right l).trans (List.perm_middle.symm)
    exact h1.trans h2
def ltI (a b : Int) : Bool := decide (a < b)
theorem bub_falls (x : Int) : ∀ (r : List Int), r.Pairwise (fun a b => b ≤ a) → (bub ltI x r).Pairwise (fun a b => b ≤ a) := by
  intro r
  induction r with
  | nil => intro _; simp [bub]
  | cons y r ih =>
    intro h
    have h2 := List.pairwise_cons.1 h
    unfold bub
    by_cases hx : ltI x y = true
    · rw [if_pos hx]
      refine List.pairwise_cons.2 ⟨fun z hz => ?_, ih h2.2⟩
      have hxy : x < y := of_decide_eq_true hx
      rcases List.mem_cons.1 ((bub_perm ltI x r).mem_iff.1 hz) with rfl | hz
      · omega
      · exact h2.1 z hz
    · rw [if_neg hx]
      have hxy : ¬ x < y := fun hc => hx (decide_eq_true hc)
      refine List.pairwise_cons.2 ⟨fun z hz => ?_, h⟩
      rcases List.mem_cons.1 hz with rfl | hz
      · omega
      · have := h2.1 z hz; omega
theorem isortR_falls : ∀ (l rp : List Int), rp.Pairwise (fun a b => b ≤ a) → (isortR ltI rp l).Pairwise (fun a b => b ≤ a) := by
  intro l
  induction l with
  | nil => intro rp h; exact h
  | cons x l ih => intro rp h; exact ih _ (bub_falls x rp h)
def isort (l : List Int) : List Int := (isortR ltI [] l).reverse
theorem isort_perm (l : List Int) : (isort l).Perm l := (List.reverse_perm _).trans (by simpa using isortR_perm ltI l [])
theorem isort_rises (l : List Int) : (isort l).Pairwise (fun a b => a ≤ b) := by
  unfold isort
  rw [List.pairwise_reverse]
  exact isortR_falls l [] List.Pairwise.nil
theorem rd_mid (p q : List Int) (x : Int) (j : Int) (hj : j = p.length) : rd (p ++ x :: q) j = x := by
  subst hj
  unfold rd
  rw [Int.toNat_natCast, List.getD_eq_getElem?_getD, List.getElem?_append_right (Nat.le_refl _)]
  simp
theorem swap_mid {α : Type} (p q : List α) (x y : α) : ((p ++ y :: x :: q).set (p.length + 1) y).set p.length x = p ++ x :: y :: q := by
  rw [List.set_append_right _ _ (by omega), List.set_append_right _ _ (by omega)]
  simp
theorem cmp_Less_val (a b : Int) : cmp_Less_uint64.f a b = some (ltI a b) := by
  simp [cmp_Less_uint64.f, cmp_isNaN_uint64.f, ltI]
theorem ins_inner (b i : Int) : ∀ (rp : List Int) (x : Int) (q : List Int) (k : Nat), (rp.reverse ++ x :: q).length < 1000000 → rp.length < k →
    ∃ k', k ≤ k' + rp.length + 1 ∧ slices_insertionSortOrdered_uint64.l1 k (rp.reverse ++ x :: q) 0 b i (rp.length : Int) = slices_insertionSortOrdered_uint64.l0 k' ((bub ltI x rp).reverse ++ q) 0 b (wrap64 (i + 1)) := by
  intro rp
  induction rp with
  | nil =>
    intro x q k hb hk
    obtain ⟨k, rfl⟩ : ∃ m, k = m + 1 := ⟨k - 1, by omega⟩
    refine ⟨k, by simp, ?_⟩
    simp only [slices_insertionSortOrdered_uint64.l1]
    rw [if_neg (by simp)]
    rfl
  | cons y r ih =>
    intro x q k hb hk
    obtain ⟨k, rfl⟩ : ∃ m, k = m + 1 := ⟨k - 1, by omega⟩
    have hlen : ((y :: r).reverse ++ x :: q).length = r.length + q.length + 2 := by simp; omega
    have hw : wrap64 (((y :: r).length : Int) - 1) = (r.length : Int) := by
      rw [hlen] at hb
      unfold wrap64
      simp only [List.length_cons]
      omega
    have e1 : (y :: r).reverse ++ x :: q = r.reverse ++ y :: x :: q := by simp
    have r1 : rd ((y :: r).reverse ++ x :: q) ((y :: r).length : Int) = x := rd_mid _ _ _ _ (by simp)
    have r2 : rd ((y :: r).reverse ++ x :: q) (r.length : Int) = y := by rw [e1]; exact rd_mid _ _ _ _ (by simp)
    simp only [slices_insertionSortOrdered_uint64.l1]
    rw [hw, r1, r2, hlen]
    simp only [List.length_cons]
    rw [if_pos (by omega), if_pos (by omega), if_pos (by omega), if_pos (by omega), if_pos (by omega), cmp_Less_val]
    simp only [Option.bind_some]
    by_cases hl : ltI x y = true
    · rw [if_pos hl]
      have hs : (((y :: r).reverse ++ x :: q).set (((r.length + 1 : Nat) : Int)).toNat y).set ((r.length : Int)).toNat x = r.reverse ++ x :: (y :: q) := by
        rw [e1, Int.toNat_natCast, Int.toNat_natCast]
        simp
      rw [hs]
      obtain ⟨k', h1, h2⟩ := ih x (y :: q) k (by simp at hb ⊢; omega) (by simp at hk; omega)
      refine ⟨k', by omega, ?_⟩
      rw [h2]
      congr 1
      simp [bub, hl]
    · rw [if_neg hl]
      refine ⟨k, by omega, ?_⟩
      congr 1
      simp [bub, hl]
theorem ins_outer (n : Int) : ∀ (q rp : List Int) (k : Nat), (rp.length : Int) + q.length = n → rp.length + q.length < 1000000 → q.length * (rp.length + q.length + 3) < k →
    slices_insertionSortOrdered_uint64.l0 k (rp.reverse ++ q) 0 n (rp.length : Int) = some (isortR ltI rp q).reverse := by
  intro q
  induction q with
  | nil =>
    intro rp k hn hb hk
    obtain ⟨k, rfl⟩ : ∃ m, k = m + 1 := ⟨k - 1, by omega⟩
    simp only [slices_insertionSortOrdered_uint64.l0]
    rw [if_neg (by simp at hn; omega)]
    simp [isortR]
  | cons x q ih =>
    intro rp k hn hb hk
    obtain ⟨k, rfl⟩ : ∃ m, k = m + 1 := ⟨k - 1, by omega⟩
    have hmul : (x :: q).length * (rp.length + (x :: q).length + 3) = q.length * (rp.length + 1 + q.length + 3) + (rp.length + 1 + q.length + 3) := by
      simp only [List.length_cons]
      rw [Nat.add_mul, Nat.one_mul]
      have : rp.length + (q.length + 1) + 3 = rp.length + 1 + q.length + 3 := by omega
      rw [this]
    rw [hmul] at hk
    simp only [List.length_cons] at hn hb
    simp only [slices_insertionSortOrdered_uint64.l0]
    rw [if_pos (by omega)]
    obtain ⟨k', h1, h2⟩ := ins_inner n (rp.length : Int) rp x q k (by simp; omega) (by omega)
    rw [h2]
    have hw : wrap64 ((rp.length : Int) + 1) = ((bub ltI x rp).length : Int) := by
      have := (bub_perm ltI x rp).length_eq
      unfold wrap64
      simp only [List.length_cons] at this
      omega
    rw [hw]
    have hl := (bub_perm ltI x rp).length_eq
    simp only [List.length_cons] at hl
    rw [ih (bub ltI x rp) k' (by omega) (by omega) (by rw [hl]; omega)]
    rfl
theorem ins_val (l : List Int) (h : l.length ≤ 12) : slices_insertionSortOrdered_uint64.f 1000 l 0 (l.length : Int) = some (isort l) := by
  unfold slices_insertionSortOrdered_uint64.f
  have hw : wrap64 ((0 : Int) + 1) = 1 := by unfold wrap64; omega
  rw [hw]
  cases l with
  | nil => rfl
  | cons x q =>
    have hm : q.length * (1 + q.length + 3) ≤ 12 * 16 := Nat.mul_le_mul (by simp at h; omega) (by simp at h; omega)
    have := ins_outer ((x :: q).length : Int) q [x] 1000 (by simp; omega) (by simp at h ⊢; omega) (by simp only [List.length_singleton]; omega)
    simpa [isort, isortR, bub] using this
def sortU.f (l : List Int) : Option (List Int) := if l.length ≤ 1000000 then some (isort l) else none
set_option maxHeartbeats 1000000 in
set_option maxRecDepth 100000 in
theorem pdqU.calls (P0_ : Nat → Prop) (u9000_ : Value) (l0 : List Int) (lim : Int) (w0 w : World) (hB : Below w0.heap.size w0 w) (ho0 : Kd.R (Kd.int .u64) 29 w w0.heap.size P0_ u9000_ l0) (hl : l0.length ≤ 12) :
    Calls Try.prog 30 #[u9000_, .int .i64 0, .int .i64 (l0.length : Int), .int .i64 lim] w fun e w' => e = .returned (.tuple #[]) ∧ Kd.R (Kd.int .u64) 29 w' w0.heap.size (fun k_ => (P0_ k_ ∨ w.heap.size ≤ k_)) u9000_ (isort l0) ∧ Below w0.heap.size w0 w' ∧ Kept w w' (fun k_ => P0_ k_) := by
  have hi := Aside0.mk (slices_insertionSortOrdered_uint64.calls 1000 P0_ u9000_ l0 0 (l0.length : Int) (isort l0) w0 w hB ho0 (ins_val l0 hl))
  have h1 : (l0.length : Int) ≤ 12 := by omega
  have h2 : decide ((l0.length : Int) ≤ 12) = true := decide_eq_true h1
  have h3 : wrap64 ((l0.length : Int) - 0) = (l0.length : Int) := by unfold wrap64; omega
  clear hB ho0
  go_enter Try.func30, Try.ntmps30
  go_wp2
  refine wp_loop_rounds 1 ?_
  rw [rounds_succ]
  go_wp2_with (go_at_call 33; refine hi.out.mono ?_; rintro e w' ⟨rfl, ho, hb, hk⟩; have HO := Aside0.mk ho; have HB := Aside0.mk hb; have HK := Aside0.mk hk; clear ho hb hk)
  first | go_end0 | ((try simp only [Exit.inBlock, Exit.then]); refine bodyPost_ret (results_none rfl _ _ _) rfl ?_)
  exact ⟨rfl, HO.out, HB.out, HK.out⟩
set_option maxHeartbeats 1000000 in
set_option maxRecDepth 100000 in
theorem sortU.empty (P0_ : Nat → Prop) (u9000_ : Value) (l0 : List Int) (w0 w : World) (hB : Below w0.heap.size w0 w) (ho0 : Kd.R (Kd.int .u64) 29 w w0.heap.size P0_ u9000_ l0) (hl : l0.length ≤ 12) :
    Calls Try.prog 24 #[u9000_] w fun e w' => e = .returned (.tuple #[]) ∧ Kd.R (Kd.int .u64) 29 w' w0.heap.size (fun k_ => (P0_ k_ ∨ w.heap.size ≤ k_)) u9000_ (isort l0) ∧ Below w0.heap.size w0 w' ∧ Kept w w' (fun k_ => P0_ k_) := by
  obtain ⟨A, c, hv⟩ := Kd.R_slice ho0
  subst hv
  have hp := Aside0.mk (fun lim => pdqU.calls P0_ _ l0 lim w0 w hB ho0 hl)
  have hlen := Aside0.mk (Any.bits_Len Try.laysLen (l0.length : Int) w (by omega) (by omega))
  have h1 : (l0.length : Int) ≤ 12 := by omega
  have h3 : IntKind.u64.wrap (l0.length : Int) = (l0.length : Int) := by rw [IntKind.wrap_u64]; omega
  clear hB ho0 hl
  go_enter Try.func24, Try.ntmps24
  go_wp2_with (first | (go_at_call 31; refine hlen.out.mono ?_; rintro e w' ⟨rfl, rfl⟩) | (go_at_call 30; refine (hp.out _).mono ?_; rintro e w' ⟨rfl, ho, hb, hk⟩; have HO := Aside0.mk ho; have HB := Aside0.mk hb; have HK := Aside0.mk hk; clear ho hb hk))
  first | go_end0 | ((try simp only [Exit.inBlock, Exit.then]); refine bodyPost_ret (results_none rfl _ _ _) rfl ?_)
  exact ⟨rfl, HO.out, HB.out, HK.out⟩
open Go.Sort
def encOne (x : Int) : List Value := [.int .u64 x]
theorem flatOne : FlatKd (Kd.int .u64) encOne where
  len _ := rfl
  one x v hv := by simp [encOne] at hv; subst hv; rfl
  M w base ok x cs := ⟨fun h => h, fun h => h⟩
theorem flatK_one (d : Array Int) : flatK encOne 1 d = d.map (Value.int .u64) := by
  apply Array.ext
  · simp
  · intro i h1 h2
    have hi : i < d.size := by simpa using h2
    have h3 := get_flatK encOne 1 d i (by simpa using hi)
    rw [getElem!_pos _ i h1] at h3
    rw [h3, Nat.div_one, Nat.mod_one]
    have h4 : d[i]! = d[i] := getElem!_pos d i hi
    rw [h4]
    simp [encOne]
theorem putRow_one (w : World) (g : Nat) (d : Array Int) : putRow (Value.int .u64) w g 0 d = putRow id w g 0 (flatK encOne 1 d) := by
  unfold putRow
  refine mapBlock_congr _ _ _ _ fun c e fr _ => ?_
  rw [flatK_one]
  unfold putCells
  apply Array.ext
  · simp
  · intro i h1 h2
    simp only [Array.getElem_mapIdx, Array.size_map]
    by_cases hi : 0 ≤ i ∧ i < 0 + d.size
    · rw [if_pos hi, if_pos hi]
      have hj : i - 0 < d.size := by omega
      have h4 : d[i - 0]! = d[i - 0] := getElem!_pos d (i - 0) hj
      have h5 : (d.map (Value.int .u64))[i - 0]! = (d.map (Value.int .u64))[i - 0]'(by simpa using hj) := getElem!_pos (d.map (Value.int .u64)) (i - 0) (by simpa using hj)
      rw [h4, h5]
      simp
    · rw [if_neg hi, if_neg hi]
theorem holds_one {w : World} {g : Nat} {d : Array Int} (h : HoldsK encOne 1 w g 0 d) : Holds (Value.int .u64) w g 0 d := by
  intro j hj
  have h1 := h j (by simpa using hj)
  have h2 := get_flatK encOne 1 d j (by simpa using hj)
  rw [h2, Nat.div_one, Nat.mod_one] at h1
  exact h1
theorem isort_merge (l : List Int) : (l.mergeSort fun x y => decide (x ≤ y)) = isort l := by
  have p : (l.mergeSort fun x y => decide (x ≤ y)).Perm (isort l) := (List.mergeSort_perm l _).trans (isort_perm l).symm
  have s : (l.mergeSort fun x y => decide (x ≤ y)).Pairwise (fun a b => a ≤ b) := by
    have h := List.pairwise_mergeSort (le := fun x y : Int => decide (x ≤ y)) (fun a b c h1 h2 => by simp only [decide_eq_true_eq] at *; omega) (fun a b => by simp only [Bool.or_eq_true, decide_eq_true_eq]; omega) l
    exact h.imp fun h => of_decide_eq_true h
  exact p.eq_of_pairwise (fun a b _ _ h1 h2 => Int.le_antisymm h1 h2) s (isort_rises l)
theorem sortU.calls (P0_ : Nat → Prop) (u9000_ : Value) (l0 : List Int) (r : List Int) (w0 w : World) (hB : Below w0.heap.size w0 w) (ho0 : Kd.R (Kd.int .u64) 29 w w0.heap.size P0_ u9000_ l0) (h : sortU.f l0 = some r) :
    Calls Try.prog 24 #[u9000_] w fun e w' => e = .returned (.tuple #[]) ∧ Kd.R (Kd.int .u64) 29 w' w0.heap.size (fun k_ => (P0_ k_ ∨ w.heap.size ≤ k_)) u9000_ r ∧ Below w0.heap.size w0 w' ∧ Kept w w' (fun k_ => P0_ k_) := by
  unfold sortU.f at h
  by_cases hl : l0.length ≤ 1000000
  case neg => rw [if_neg hl] at h; simp at h
  rw [if_pos hl] at h
  obtain rfl := Option.some.inj h
  by_cases h0 : l0 = []
  · exact sortU.empty P0_ u9000_ l0 w0 w hB ho0 (by subst h0; decide)
  · obtain ⟨g, cap, rfl, ⟨hn, hm⟩, hg, hb, hH⟩ := flatOne.holds ho0 h0
    have hcon := Go.Proofs.Ytjehhfhkbboamaa.SortU.sort_u g 0 cap l0 w (holds_one hH) (by omega) (by omega)
    refine hcon.mono fun e w' hw => ?_
    obtain ⟨he, q, os, hw⟩ := hw
    rw [isort_merge, putRow_one] at hw
    have hlen : (isort l0).length = l0.length := (isort_perm l0).length_eq
    have ha := flatOne.after hB ho0 hlen rfl q os
    subst hw
    exact ⟨he, ha.1, ha.2⟩
def compactU.f (l : List Int) : Option (List Int) := some (Lib.compact l)
theorem compactUpTo_le (d : Array Int) (m : Nat) : (Lib.compactUpTo d m).length ≤ m := by
  induction m with
  | zero => simp [Lib.compactUpTo]
  | succ m ih =>
    rw [Lib.compactUpTo_succ]
    split
    · simp; omega
    · simp; omega
theorem compact_le (l : List Int) : (Lib.compact l).length ≤ l.length := compactUpTo_le _ _
theorem hz29 : ∀ w, (zeroValue 29).run Try.prog w = .ok (.int .u64 0) w := fun w => by
  obtain ⟨i0, hi, hzz⟩ := Option.map_eq_some_iff.1 info29
  simp only [Prod.mk.injEq] at hzz
  simp [zeroValue, typeInfo, hi, hzz.1]
theorem compactU.calls (P0_ : Nat → Prop) (u9000_ : Value) (l0 : List Int) (r : List Int) (w0 w : World) (hB : Below w0.heap.size w0 w) (ho0 : Kd.R (Kd.int .u64) 29 w w0.heap.size P0_ u9000_ l0) (h : compactU.f l0 = some r) :
    Calls Try.prog 25 #[u9000_] w fun e w' => ∃ v0_ : Value, e = .returned (v0_) ∧ Kd.R (Kd.int .u64) 29 w' w0.heap.size (fun k_ => (P0_ k_ ∨ w.heap.size ≤ k_)) v0_ r ∧ Below w0.heap.size w0 w' ∧ Kept w w' (fun k_ => P0_ k_) := by
  unfold compactU.f at h
  obtain rfl := Option.some.inj h
  by_cases h0 : l0 = []
  · subst h0
    obtain ⟨A, c, hv⟩ := Kd.R_slice ho0
    subst hv
    have HS := Aside0.mk (same_after hB ho0)
    have hc : Lib.compact ([] : List Int) = [] := rfl
    rw [hc]
    clear hc hB ho0
    go_enter Try.func25, Try.ntmps25
    go_wp2
    go_ret
    exact ⟨_, rfl, HS.out⟩
  · obtain ⟨g, cap, rfl, ⟨hn, hm⟩, hg, hb, hH⟩ := flatOne.holds ho0 h0
    have hcon := AnyE.slices_Compact Try.laysCompact (Value.int .u64) (fun _ => rfl) (EqlAt.intD _ _ _) (NeqAt.intD _ _ _) 0 hz29 g 0 cap l0.toArray w (holds_one hH) (by simp only [List.size_toArray]; omega) (by simpa using hn)
    refine hcon.mono fun e w' hw => ?_
    obtain ⟨he, q, hw⟩ := hw
    have hcc : Lib.compactUpTo l0.toArray l0.toArray.size = Lib.compact l0 := by simp [Lib.compact]
    rw [hcc] at he hw
    simp only [List.size_toArray] at hw
    rw [putRow_one] at hw
    have hle := compact_le l0
    have hlen : (Lib.compact l0 ++ List.replicate (l0.length - (Lib.compact l0).length) 0).length = l0.length := by
      rw [List.length_append, List.length_replicate]; omega
    have ha := flatOne.after hB ho0 hlen rfl q #[]
    have hw2 : w' = grow (putRow id (Go.Sort.ahead w q) g 0 (flatK encOne 1 (Lib.compact l0 ++ List.replicate (l0.length - (Lib.compact l0).length) 0).toArray)) #[] := by rw [hw, grow_empty]
    subst hw2
    refine ⟨_, he, ?_, ha.2⟩
    have ht := Kd.R_take (m := (Lib.compact l0).length) ha.1 (by rw [hlen]; exact hle)
    rw [List.take_left'  rfl] at ht
    exact ht
end Go.Proofs.Ytjehhfhkbboamaa.P
