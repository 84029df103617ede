/- 'clear(xs[k:])' on a row of one's own: what stands behind is the row with zero values from k on; for the printed walks. -/
import Derived.Test.YtjehhfhkbboamaaWWords
import Derived.Test.YtjehhfhkbboamaaWMore
import Derived.Laws.IdiomCopy
namespace Go.Proofs.Ytjehhfhkbboamaa.P
open Go.RowKit Go.Proofs.YtjehhfhkbboamaaW.PrintWords Go.Proofs.YtjehhfhkbboamaaW.PrintLast Go.Proofs.YtjehhfhkbboamaaW.PrintMore
open Go.Proofs
theorem zeroCells_get (cs : Array Value) (m i : Nat) (hi : i < m * cs.size) : (Builtin.zeroCells cs m).toList[i]? = cs.toList[i % cs.size]? := by
  have h0 : 0 < cs.size := by
    rcases Nat.eq_zero_or_pos cs.size with h | h
    · rw [h] at hi; simp at hi
    · exact h
  have hm := Nat.mod_lt i h0
  unfold Builtin.zeroCells
  rw [Array.getElem?_toList, Array.getElem?_map, Array.getElem?_range, if_pos hi, Option.map_some, Array.getElem?_toList, Array.getElem?_eq_getElem hm]
  rw [getElem!_pos cs (i % cs.size) hm]
theorem reps_zeros {α : Type} {R : α → List Value → Prop} {z : α} {cs : Array Value} (hz : R z cs.toList) (m : Nat) : Reps R cs.size (List.replicate m z) (Builtin.zeroCells cs m).toList := by
  refine ⟨by simp [Builtin.zeroCells], fun j p hj => ?_⟩
  have hjm : j < m := by
    have := (List.getElem?_eq_some_iff.1 hj).1
    simpa using this
  have hp : z = p := by
    have := (List.getElem?_eq_some_iff.1 hj).2
    simpa using this
  subst hp
  have : ((Builtin.zeroCells cs m).toList.drop (j * cs.size)).take cs.size = cs.toList := by
    apply List.ext_getElem?
    intro i
    rw [List.getElem?_take]
    by_cases hi : i < cs.size
    · rw [if_pos hi, List.getElem?_drop, zeroCells_get cs m _ (by
        have := Nat.mul_le_mul_right cs.size (show j + 1 ≤ m from hjm)
        rw [Nat.add_mul, Nat.one_mul] at this; omega), Nat.mul_comm, Nat.mul_add_mod, Nat.mod_eq_of_lt hi]
    · rw [if_neg hi, List.getElem?_eq_none (by simpa using hi)]
  rw [this]
  exact hz
section
variable {P : Program} {α : Type}
open Kd in
theorem R_clear_run (d : Kd α) {W : World} (base : Nat) (t ty e : TypeId) (ht : P.underlying t = some (.slice e)) (z : α) (zv : Value) (hv : ∀ w, (zeroValue e).run P w = .ok zv w) (hz : ∀ (w : World), d.M w base (fun _ => False) z zv.cells.toList)
    {A0 : Option Addr} {n c k : Nat} {xs : List α} {ok : Nat → Prop} (HO : d.R e W base ok (.slice A0 n c) xs) (hk : k ≤ n) {A : Option Addr} (hA : A = if c = k then A0 else A0.map (·.add (k * d.sz))) {m : Nat} (hm : m = n - k) (c2 : Nat) :
    ∃ w1, (Builtin.clear_ #[t] ty #[.slice A m c2]).run P W = .ok (.tuple #[]) w1 ∧ d.R e w1 base ok (.slice A0 n c) (xs.take k ++ List.replicate (xs.length - k) z) ∧ W.grownBy w1 (Value.slice A0 n c).ownBlock := by
  subst hm
  obtain ⟨hn, hnc, _⟩ := R_reads' HO
  rw [← hn]
  by_cases hkn : k = n
  · subst hkn
    have h1 : xs.take k ++ List.replicate (k - k) z = xs := by simp [hn]
    refine ⟨W, ?_, by rw [h1]; exact HO, ⟨rfl, rfl, rfl, Nat.le_refl _, fun _ _ _ => rfl⟩⟩
    have : k - k = 0 := Nat.sub_self k
    rw [this]
    cases A <;> simp [Builtin.clear_, run_underlying ht]
  have hlt : k < n := by omega
  obtain ⟨hok, inner, hown, hr⟩ := HO
  have hin : inner.length = n * d.sz := by rw [hr.1, hn]
  rcases hown.2 with ⟨hv', _⟩ | ⟨g, cap', cur, hv', hb, hh, _, hcm, hcs, htake⟩
  · injection hv' with _ h2 _
    omega
  injection hv' with ha _ hc
  subst ha; subst hc
  rw [← hn] at htake
  have hzs : zv.cells.size = d.sz := by
    have := d.K_len (d.K_of_M (hz W))
    simpa using this
  obtain ⟨news, hnews⟩ : ∃ news, news = (Builtin.zeroCells zv.cells (n - k)).toList := ⟨_, rfl⟩
  have hnl : news.length = (n - k) * d.sz := by rw [hnews]; simp [Builtin.zeroCells, hzs]
  have hle : k * d.sz ≤ n * d.sz := Nat.mul_le_mul_right _ hk
  have hnc' : n * d.sz ≤ c * d.sz := Nat.mul_le_mul_right _ hnc
  have hsub : (n - k) * d.sz = n * d.sz - k * d.sz := Nat.sub_mul _ _ _
  have hA' : A = some ⟨g, k * d.sz, none⟩ := by
    rw [hA, if_neg (by omega), Option.map_some, add_at]
    simp
  subst hA'
  have hone : ∀ u ∈ news, u.oneCell' = true := by
    intro u hu
    rw [hnews] at hu
    simp only [Builtin.zeroCells, Array.toList_map, List.mem_map, Array.mem_toList_iff, Array.mem_range] at hu
    obtain ⟨i, hi, rfl⟩ := hu
    have h0 : 0 < zv.cells.size := by
      rcases Nat.eq_zero_or_pos zv.cells.size with h | h
      · rw [h] at hi; simp at hi
      · exact h
    have hm' := Nat.mod_lt i h0
    rw [getElem!_pos zv.cells (i % zv.cells.size) hm']
    exact d.K_one (d.K_of_M (hz W)) _ (by simp)
  have hfit : k * d.sz + news.length ≤ cur.size := by omega
  have hcell : ∀ j, j < news.length → (W.cell? ⟨g, k * d.sz + 0 + j, none⟩).isSome = true := by
    intro j hj
    rw [cell_of_row W g _ cur e (0, 0) hh]
    simp
    omega
  have hst := run_storeCells_cells (P := P) g (k * d.sz) news 0 W hcell (fun j _ => blk_frozen hh _) hone
  simp only [Nat.add_zero] at hst
  obtain ⟨m, hm⟩ : ∃ m, n - k = m + 1 := ⟨n - k - 1, by omega⟩
  have hrun : (Builtin.clear_ #[t] ty #[.slice (some ⟨g, k * d.sz, none⟩) (n - k) c2]).run P W = .ok (.tuple #[]) (W.setCells g (k * d.sz) news) := by
    rw [hnews, hm] at hst
    rw [hnews, hm]
    simp [Builtin.clear_, run_underlying ht, hv, hst]
  obtain ⟨cur', h3, h4, h5⟩ := setCells_row news (k * d.sz) W cur hh hfit
  obtain ⟨s1, s2, s3, s4⟩ := setCells_same g news (k * d.sz) W
  have hfar : ∀ k', k' ≠ g → (W.setCells g (k * d.sz) news).heap[k']? = W.heap[k']? := fun k' hk' => setCells_far news _ k' hk'
  have hel : (xs.take k ++ List.replicate (n - k) z).length = n := by rw [List.length_append, List.length_take, List.length_replicate]; omega
  refine ⟨_, hrun, ⟨hok, inner.take (k * d.sz) ++ news, ⟨?_, .inr ⟨g, c, cur', by rw [hel], hb, h3, by rw [hel]; omega, hcm, by rw [h4, hcs], ?_⟩⟩, ?_⟩, ⟨s1, s2, s3, by rw [s4]; exact Nat.le_refl _, fun k' _ hk' => hfar k' (fun he => hk' (by rw [he]; simp [Value.ownBlock]))⟩⟩
  · rw [List.length_append, List.length_take, hnl, hel]
    omega
  · rw [hel, h5]
    have h7 : cur.toList.take (k * d.sz) = inner.take (k * d.sz) := by
      rw [← htake, List.take_take, Nat.min_eq_left (by omega)]
    rw [h7]
    exact List.take_left' (by rw [List.length_append, List.length_take, hnl]; omega)
  · have hgo : some g = (Value.slice (some ⟨g, 0, none⟩) n c).ownBlock := by simp [Value.ownBlock]
    have hmv : ∀ p q, d.M W base (fun k' => ok k' ∧ some k' ≠ (Value.slice (some ⟨g, 0, none⟩) n c).ownBlock) p q → d.M (W.setCells g (k * d.sz) news) base (fun k' => ok k' ∧ some k' ≠ (Value.slice (some ⟨g, 0, none⟩) n c).ownBlock) p q := fun p q hp =>
      d.M_move (fun k' hk' => hfar k' (fun he => hk'.2 (by rw [← hgo, he]))) hp
    refine reps_append ((reps_take hr (by omega)).imp_ hmv) ?_
    rw [hnews, ← hzs]
    exact reps_zeros (d.M_mono (fun _ h => h.elim) (hz _)) _
end
section
variable {P : Program} {ops : Array Oper} {rest : List Oper} {o : Oper} {a : Act} {Q : Exit → Act → World → Prop} {α : Type}
open Kd in
theorem R_clear (d : Kd α) {w0 W : World} (base : Nat) (hgd : o.guard = none) (x : Operand) (t e : TypeId) (ho : o.op = .call { callee := .builtin .clear, args := #[x], argTypes := #[t] })
    (ht : P.underlying t = some (.slice e)) (zv : Value) (bytes : Nat) (hinfo : (P.info? e).map (fun i => (i.zero, i.size, i.bytes)) = some (some zv, d.sz, bytes)) (z : α) (hz : ∀ (w : World), d.M w base (fun _ => False) z zv.cells.toList) {A0 : Option Addr} {n c k m c2 : Nat} {A : Option Addr} {xs : List α} {ok : Nat → Prop}
    (hx : a.eval x = .slice A m c2) (hA : A = if c = k then A0 else A0.map (·.add (k * d.sz))) (hm : m = n - k)
    (HO : d.R e W base ok (.slice A0 n c) xs) (hk : k ≤ n) (HB : Below base w0 W) (hbase : base ≤ W.heap.size)
    (h : ∀ w1, d.R e w1 base ok (.slice A0 n c) (xs.take k ++ List.replicate (xs.length - k) z) → Below base w0 w1 → W.grownBy w1 (Value.slice A0 n c).ownBlock → wpList P ops Q rest (a.put o.dst (.tuple #[])) w1) : wpList P ops Q (o :: rest) a W := by
  obtain ⟨i0, hi, hzz⟩ := Option.map_eq_some_iff.1 hinfo
  simp only [Prod.mk.injEq] at hzz
  obtain ⟨hz0, hz1, hz2⟩ := hzz
  have hv : ∀ w, (zeroValue e).run P w = .ok zv w := fun w => by simp [zeroValue, typeInfo, hi, hz0]
  obtain ⟨w1, hr, h1, h2⟩ := R_clear_run (P := P) d base t o.type e ht z zv hv hz HO hk hA hm c2
  refine wpList_plain hgd fun K hK => ?_
  unfold Oper.wp execOp
  simp only [ho, resolve, invoke, builtin, Sem.run_bind, Sem.run_pure, Result.andThen_ok, List.map_toArray, List.map_cons, List.map_nil, hx, hr]
  exact hK _ _ (h w1 h1 (HB.grown h2 hbase (fun k hk => R_base HO _ hk)) h2)
end
end Go.Proofs.Ytjehhfhkbboamaa.P
