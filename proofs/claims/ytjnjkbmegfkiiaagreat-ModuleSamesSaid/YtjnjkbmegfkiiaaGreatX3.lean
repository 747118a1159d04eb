/- The small logic's third part: append, settled cells, results, entries, regions that draw their order. -/
import Derived.Test.YtjnjkbmegfkiiaaGreatX2
namespace Go.Proofs.YtjnjkbmegfkiiaaGreat
open Go.RowKit

section
variable {w0 : World} {U0 : Mk} {n : Nat} {E E' : List (Nat × Value)} {H H' : List Blk} {RW : List Row} {F G : Fact} {a : Act} {w w' : World} {U U' : Mk}
variable {P : Program} {K : Act → World → Prop} {Q : Exit → Act → World → Prop}
variable {d : Nat} {ty : Nat} {pos : String} {aft : Array Edge} {gd : Option (Nat × Bool)}

/-- The settled cells that a slice begins with. -/
def Cont (v : Value) (cs : List Value) : Fact := fun w U =>
  cs = [] ∨ ∃ g o m c, v = .slice (some ⟨g, o, none⟩) m c ∧ ∀ j u, cs[j]? = some u → o + j < U g ∧ w.cell? ⟨g, o + j, none⟩ = some u
theorem Cont.mono (v : Value) (cs : List Value) : Mono (Cont v cs) := by
  intro w U w' U' e h
  rcases h with h | ⟨g, o, m, c, hv, h⟩
  · exact .inl h
  · exact .inr ⟨g, o, m, c, hv, fun j u hu => ⟨Nat.lt_of_lt_of_le (h j u hu).1 (e.mark g), e.cell _ _ _ (h j u hu).1 (h j u hu).2⟩⟩
theorem Cont.nil (v : Value) (w : World) (U : Mk) : Cont v [] w U := .inl rfl

/-- append, exactly. -/
theorem run_append_x {T ty e : Nat} {i : TypeInfo} {z : Value} {sz bytes : Nat} (ht : P.underlying T = some (.slice e)) (hi : P.info? e = some i) (hz : i.zero = some z) (hsize : i.size = sz) (hby : i.bytes = bytes) (hzs : z.cells.size = sz) (hsz : 0 < sz)
    {base : Nat} {v : Value} {nn : Nat} (hr : (Row.mk v e sz nn).ok w U base) {xs : List Value} (hc : Cont v xs w U) (hxl : xs.length = nn * sz)
    {ad : Addr} {m c : Nat} {news : List Value} (hl : news.length = m * sz) (hnews : ∀ j u, news[j]? = some u → w.cell? (ad.add j) = some u) (h1 : ∀ u ∈ news, u.oneCell' = true) (hm : 0 < m)
    (hbytes : (nn + m) * bytes ≤ 140737488355328) (h63 : nn + m ≤ maxLen) :
    ∃ (g cap : Nat) (cur : Array Value) (w' : World), (Builtin.append_ #[T, T] ty #[v, .slice (some ad) m c]).run P w = .ok (.slice (some ⟨g, 0, none⟩) (nn + m) cap) w' ∧
      w'.heap[g]? = some (.cells cur e (0, 0)) ∧ nn + m ≤ cap ∧ cap ≤ maxLen ∧ cur.size = cap * sz ∧ (∀ (j : Nat) (u : Value), (xs ++ news)[j]? = some u → cur[j]? = some u) ∧
      w'.os = w.os ∧ w'.tape = w.tape ∧ w'.output = w.output ∧ w.heap.size ≤ w'.heap.size ∧
      ((g = w.heap.size ∧ ∀ b, b < w.heap.size → w'.heap[b]? = w.heap[b]?) ∨ (v.ownBlock = some g ∧ ∀ b, b ≠ g → w'.heap[b]? = w.heap[b]?)) := by
  subst hsize
  subst hby
  have hsmall : nn + m ≤ 9223372036854775807 := by simp only [maxLen] at h63; omega
  obtain ⟨_, hr⟩ := hr
  simp only at hr
  have grown : ∀ (old : Nat), (w.drew.alloc (.cells (xs.toArray ++ news.toArray ++ Builtin.zeroCells z.cells (grownCap w (nn + m) old e - (nn + m))) e)).heap[w.heap.size]? = some (.cells (xs.toArray ++ news.toArray ++ Builtin.zeroCells z.cells (grownCap w (nn + m) old e - (nn + m))) e (0, 0)) ∧
      nn + m ≤ grownCap w (nn + m) old e ∧ grownCap w (nn + m) old e ≤ maxLen ∧ (xs.toArray ++ news.toArray ++ Builtin.zeroCells z.cells (grownCap w (nn + m) old e - (nn + m))).size = grownCap w (nn + m) old e * i.size ∧
      (∀ (j : Nat) (u : Value), (xs ++ news)[j]? = some u → (xs.toArray ++ news.toArray ++ Builtin.zeroCells z.cells (grownCap w (nn + m) old e - (nn + m)))[j]? = some u) := by
    intro old
    have hge := grownCap_ge w (nn + m) old e
    refine ⟨heap_alloc_new w.drew _, hge, grownCap_le_maxLen w (nn + m) old e h63, ?_, fun j u hu => ?_⟩
    · simp only [Array.size_append, List.size_toArray, size_zeroCells, hzs, hxl, hl, ← Nat.add_mul]
      congr 1
      omega
    · have hj : j < (xs ++ news).length := (List.getElem?_eq_some_iff.1 hu).1
      rw [Array.getElem?_append_left (by simpa using hj), List.append_toArray, List.getElem?_toArray]
      exact hu
  have hgw : ∀ b, b < w.heap.size → ∀ o : Obj, (w.drew.alloc o).heap[b]? = w.heap[b]? := fun b hb o => heap_alloc_old w.drew o b hb
  rcases hr with ⟨rfl, rfl⟩ | ⟨g, cap, cur, rfl, hbg, hg, hnc, hcm, hcs, hn0, hU⟩
  · have hx : xs = [] := List.eq_nil_of_length_eq_zero (by simpa using hxl)
    subst hx
    have hrun := run_append_nil (P := P) w T ty e i z ht hi hz ad m c news hl hnews (by omega) (by omega) (by have hb := hbytes; simp only [Nat.zero_add] at hb; omega)
    obtain ⟨k1, k2, k3, k4, k5⟩ := grown 0
    simp only [Nat.zero_add, List.nil_append, Array.empty_append] at hrun k1 k2 k3 k4 k5 ⊢
    exact ⟨_, _, _, _, hrun, k1, k2, k3, k4, k5, rfl, rfl, rfl, by simp, .inl ⟨rfl, fun b hb => hgw b hb _⟩⟩
  · have hxs : ∀ j u, xs[j]? = some u → w.cell? ((⟨g, 0, none⟩ : Addr).add j) = some u := by
      intro j u hu
      rcases hc with hc | ⟨g', o, m', c', hv, hc⟩
      · subst hc; simp at hu
      · simp only [Value.slice.injEq, Option.some.injEq, Addr.mk.injEq] at hv
        obtain ⟨⟨rfl, rfl, _⟩, _⟩ := hv
        rw [add_at]
        exact (hc j u hu).2
    by_cases hroom : nn + m ≤ cap
    · have hfit : nn * i.size + news.length ≤ cur.size := by rw [hl, hcs, ← Nat.add_mul]; exact Nat.mul_le_mul_right _ hroom
      have hrun := run_append_room (P := P) w T ty e i ht hi g nn cap cur hg ad m c news hl hnews h1 hroom hfit
      refine ⟨g, cap, _, _, hrun, setRow_heap w g cur _ e _ hg, hroom, hcm, ?_, fun j u hu => ?_, rfl, rfl, rfl, by simp [World.setRow], .inr ⟨rfl, fun b hb => setRow_other w g b _ hb⟩⟩
      · simp only [List.size_toArray, List.length_append, List.length_take, List.length_drop, Array.length_toList]
        omega
      · have htake : cur.toList.take (nn * i.size) = xs := by
          apply List.ext_getElem?
          intro j
          rw [List.getElem?_take]
          by_cases hj : j < nn * i.size
          · rw [if_pos hj]
            have hj' : j < xs.length := by omega
            have := hxs j xs[j] (List.getElem?_eq_getElem hj')
            rw [add_at, cell_of_row w g (0 + j) cur e (0, 0) hg, Nat.zero_add] at this
            rw [List.getElem?_eq_getElem hj', ← this]
            simp
          · rw [if_neg hj, List.getElem?_eq_none (by omega)]
        rw [List.getElem?_toArray, htake]
        have hj : j < (xs ++ news).length := (List.getElem?_eq_some_iff.1 hu).1
        rw [List.getElem?_append_left hj]
        exact hu
    · have hrun := run_append_grow (P := P) w T ty e i z ht hi hz ⟨g, 0, none⟩ nn cap xs hxl hxs ad m c news hl hnews (by omega) (by omega) (growslice_fits (by omega) hbytes)
      obtain ⟨k1, k2, k3, k4, k5⟩ := grown cap
      exact ⟨_, _, _, _, hrun, k1, k2, k3, k4, k5, rfl, rfl, rfl, by simp, .inl ⟨rfl, fun b hb => hgw b hb _⟩⟩

/-- What append needs to know of the elements' type. -/
def ElemT (P : Program) (T e : Nat) (sz bytes : Nat) : Prop := P.underlying T = some (.slice e) ∧ ∃ i z, P.info? e = some i ∧ i.zero = some z ∧ i.size = sz ∧ i.bytes = bytes ∧ z.cells.size = sz ∧ 0 < sz

/-- append onto the activation's first row. -/
theorem r_appendG {v : Value} {e : Nat} {sz nn : Nat} (h : Sta w0 U0 n E H (⟨v, e, sz, nn⟩ :: RW) F a w U) {s x : Operand} {T : Nat} {bytes m c : Nat} {ad : Addr} {xs news : List Value} (hs : ev E s = some v) (hx : ev E x = some (.slice (some ad) m c)) (hT : ElemT P T e sz bytes)
    (hnews : ∀ j u, news[j]? = some u → w.cell? (ad.add j) = some u) (hl : news.length = m * sz) (hm : 0 < m) (h1 : news.all Value.oneCell' = true) (hc : Cont v xs w U) (hxl : xs.length = nn * sz) (hbytes : (nn + m) * bytes ≤ 140737488355328) (h63 : nn + m ≤ 1000000000000) (hd : Nat.blt d n = true)
    (kk : ∀ a v' w' U', Ext w U w' U' → Cont v' (xs ++ news) w' U' → (∃ A c, v' = .slice A (nn + m) c ∧ nn + m ≤ c) → Sta w0 U0 n ((d, v') :: E) H (⟨v', e, sz, nn + m⟩ :: RW) F a w' U' → K a w') :
    Oper.wp P ⟨some d, .call ⟨.builtin .append, [s, x].toArray, #[T, T]⟩, ty, pos, aft, gd⟩ a w K Q := by
  obtain ⟨ht, i, z, hi, hz, hsize, hby, hzs, hsz⟩ := hT
  have hrow := h.row ⟨v, e, sz, nn⟩ (.head _)
  obtain ⟨g', cap, cur, w', hrun, k1, k2, k3, k4, k5, k6, k7, k8, k9, k10⟩ := run_append_x (P := P) (ty := ty) ht hi hz hsize hby hzs hsz hrow hc hxl (ad := ad) (c := c) hl hnews (by simpa using h1) hm hbytes (by simp only [maxLen]; omega)
  have hg' : g' < w'.heap.size := (Array.getElem?_eq_some_iff.1 k1).1
  have hbase : w0.heap.size ≤ g' := by
    rcases k10 with ⟨rfl, _⟩ | ⟨ho, _⟩
    · exact h.since.below.size
    · exact (Row.ok_lt hrow ho).2.1
  have hoth : ∀ b, b < w.heap.size → b ≠ g' → w'.heap[b]? = w.heap[b]? := by
    intro b hb hne
    rcases k10 with ⟨_, h⟩ | ⟨_, h⟩
    · exact h b hb
    · exact h b hne
  have hUg : U g' ≤ nn * sz := by
    rcases k10 with ⟨rfl, _⟩ | ⟨ho, _⟩
    · rw [h.ub _ (Nat.le_refl _)]; exact Nat.zero_le _
    · rcases hrow.2 with ⟨hv, _⟩ | ⟨g2, cap2, cur2, hv, _, _, _, _, _, _, hU⟩
      · simp only at hv; rw [hv] at ho; simp [Value.ownBlock] at ho
      · simp only at hv
        rw [hv] at ho
        have : g2 = g' := by simpa [Value.ownBlock] using ho
        subst this
        exact Nat.le_of_eq hU
  let U' : Mk := fun b => if b = g' then (nn + m) * sz else U b
  have hU'g : U' g' = (nn + m) * sz := by simp [U']
  have hU'o : ∀ b, b ≠ g' → U' b = U b := fun b hb => by simp [U', hb]
  have hcell : ∀ j u, (xs ++ news)[j]? = some u → w'.cell? ⟨g', j, none⟩ = some u := fun j u hu => by
    rw [cell_of_row w' g' j cur e (0, 0) k1]
    exact k5 j u hu
  have hext : Ext w U w' U' := by
    refine ⟨k9, fun b => ?_, fun b j u hj hu => ?_⟩
    · by_cases hb : b = g'
      · subst hb; rw [hU'g]; exact Nat.le_trans hUg (Nat.mul_le_mul_right _ (by omega))
      · rw [hU'o b hb]; exact Nat.le_refl _
    · by_cases hb : b = g'
      · subst hb
        have hjx : j < xs.length := by omega
        have hxj : (xs ++ news)[j]? = some xs[j] := by rw [List.getElem?_append_left hjx, List.getElem?_eq_getElem hjx]
        rw [hcell j _ hxj]
        rcases hc with hc | ⟨g2, o2, m2, c2, hv, hc⟩
        · subst hc; simp at hjx
        · rcases hrow.2 with ⟨hv', _⟩ | ⟨g3, cap3, cur3, hv', _⟩
          · simp only at hv'; rw [hv'] at hv; simp at hv
          · simp only at hv'
            rw [hv'] at hv
            simp only [Value.slice.injEq, Option.some.injEq, Addr.mk.injEq] at hv
            obtain ⟨⟨rfl, rfl, _⟩, _⟩ := hv
            rcases k10 with ⟨hgs, _⟩ | ⟨ho, _⟩
            · rw [hgs] at hj
              rw [h.ub _ (Nat.le_refl _)] at hj
              omega
            · have : g3 = b := by rw [hv'] at ho; simpa [Value.ownBlock] using ho
              subst this
              have := (hc j _ (List.getElem?_eq_getElem hjx)).2
              rw [Nat.zero_add, hu] at this
              exact this.symm
      · have hbl : b < w.heap.size := by
          rcases Nat.lt_or_ge b w.heap.size with hl | hl
          · exact hl
          · rw [h.ub b hl] at hj; omega
        rw [World.cell?_of_block (w := w) (hoth b hbl hb)]
        exact hu
  have hne0 : ∀ b ∈ H, b.g ≠ g' := fun b hb hbg => by
    obtain ⟨j1, j2, j3⟩ := h.blk b hb
    rcases k10 with ⟨hgs, _⟩ | ⟨ho, _⟩
    · have := h.blk_lt hb; omega
    · have := (Row.ok_lt hrow ho).2.2
      rw [← hbg] at this
      omega
  have hrne : ∀ r ∈ RW, r.v.ownBlock ≠ some g' := fun r hr hro => by
    have hr1 := h.row r (.tail _ hr)
    rcases k10 with ⟨hgs, _⟩ | ⟨ho, _⟩
    · have := (Row.ok_lt hr1 hro).1; omega
    · have hap := (List.pairwise_cons.1 h.rapt).1 r hr
      rcases hap.1 with hap | hap
      · simp only at hap; rw [ho] at hap; simp at hap
      · simp only at hap; rw [ho, hro] at hap; exact hap rfl
  have hst : Sta w0 U0 n E H (⟨.slice (some ⟨g', 0, none⟩) (nn + m) cap, e, sz, nn + m⟩ :: RW) F a w' U' := by
    refine ⟨h.size, h.defs, h.env, ⟨?_, fun b hb => ?_, fun b hb => ?_⟩, fun b hb => ?_, h.apt, fun r hr => ?_, ?_, h.mono, h.mono _ _ _ _ hext h.fact⟩
    · exact h.since.below.trans ⟨k6, k7, k8, k9, fun b hb => hoth b (Nat.lt_of_lt_of_le hb h.since.below.size) (by omega)⟩
    · rw [hU'o b (by omega)]; exact h.since.old b hb
    · rw [hU'o b (by omega)]; exact h.ub b (Nat.le_trans k9 hb)
    · obtain ⟨j1, j2, j3⟩ := h.blk b hb
      exact ⟨by rw [hoth _ (h.blk_lt hb) (hne0 b hb)]; exact j1, by rw [hU'o _ (hne0 b hb)]; exact j2, j3⟩
    · rcases List.mem_cons.1 hr with rfl | hr
      · exact ⟨hsz, .inr ⟨g', cap, cur, rfl, hbase, k1, k2, k3, k4, by simp only; omega, hU'g⟩⟩
      · exact Row.ok_same (h.row r (.tail _ hr)) fun g2 hg2 => by
          have hne : g2 ≠ g' := fun e => hrne r hr (e ▸ hg2)
          exact ⟨hoth _ (Row.ok_lt (h.row r (.tail _ hr)) hg2).1 hne, hU'o _ hne⟩
    · refine List.pairwise_cons.2 ⟨fun r hr => ?_, (List.pairwise_cons.1 h.rapt).2⟩
      have := hrne r hr
      constructor
      · right; simp only [Value.ownBlock]; exact fun e => this e.symm
      · right; simp only [Value.ownBlock]; exact this
  refine wp_val (v := .slice (some ⟨g', 0, none⟩) (nn + m) cap) (w' := w') ?_ (kk _ _ _ U' hext ?_ ⟨_, _, rfl, k2⟩ (hst.put hd _))
  · simp [execOp, resolve, invoke, builtin, h.eval hs, h.eval hx, hrun]
  · refine .inr ⟨g', 0, nn + m, cap, rfl, fun j u hu => ⟨?_, ?_⟩⟩
    · have hj : j < (xs ++ news).length := (List.getElem?_eq_some_iff.1 hu).1
      rw [List.length_append, hxl, hl, ← Nat.add_mul] at hj
      rw [Nat.zero_add, hU'g]; exact hj
    · rw [Nat.zero_add]; exact hcell j u hu
/-- .. of elements that lie in a block of its own. -/
theorem r_append {v : Value} {e : Nat} {sz nn : Nat} (h : Sta w0 U0 n E H (⟨v, e, sz, nn⟩ :: RW) F a w U) {s x : Operand} {T bt : Nat} {bytes g m c : Nat} {xs news : List Value} (hs : ev E s = some v) (hx : ev E x = some (.slice (some ⟨g, 0, none⟩) m c)) (hT : ElemT P T e sz bytes)
    (hb : ⟨g, bt, news⟩ ∈ H) (hl : news.length = m * sz) (hm : 0 < m) (h1 : news.all Value.oneCell' = true) (hc : Cont v xs w U) (hxl : xs.length = nn * sz) (hbytes : (nn + m) * bytes ≤ 140737488355328) (h63 : nn + m ≤ 1000000000000) (hd : Nat.blt d n = true)
    (kk : ∀ a v' w' U', Ext w U w' U' → Cont v' (xs ++ news) w' U' → (∃ A c, v' = .slice A (nn + m) c ∧ nn + m ≤ c) → Sta w0 U0 n ((d, v') :: E) H (⟨v', e, sz, nn + m⟩ :: RW) F a w' U' → K a w') :
    Oper.wp P ⟨some d, .call ⟨.builtin .append, [s, x].toArray, #[T, T]⟩, ty, pos, aft, gd⟩ a w K Q :=
  r_appendG h hs hx hT (fun j u hj => by rw [add_at, Nat.zero_add]; exact h.cell hb hj) hl hm h1 hc hxl hbytes h63 hd kk
end
end Go.Proofs.YtjnjkbmegfkiiaaGreat
