/- The small logic's ninth part: append of what was read, rows that may be turned, division. -/
import Derived.Test.YtjnjkbmegfkiiaaGreatX8
namespace Go.Proofs.YtjnjkbmegfkiiaaGreat
open Go.RowKit
section
variable {w0 : World} {U0 : Mk} {n : Nat} {E : List (Nat × Value)} {H H' : List Blk} {RW : List Row} {F : Fact} {a : Act} {w w' : World} {U U' : Mk}
variable {P : Program} {K : Act → World → Prop} {Q : Exit → Act → World → Prop}
variable {d : Nat} {ty : Nat} {pos : String} {aft : Array Edge} {gd : Option (Nat × Bool)}

theorem run_append_zero {T ty e : Nat} {i : TypeInfo} (ht : P.underlying T = some (.slice e)) (hi : P.info? e = some i) (B A : Option Addr) (k c c' : Nat) (hk : k ≤ c) :
    (Builtin.append_ #[T, T] ty #[.slice B k c, .slice A 0 c']).run P w = .ok (.slice B k c) w := by
  cases B <;> cases A <;> simp [Builtin.append_, run_underlying ht, sizeOf, typeInfo, hi, Builtin.lenOf, hk, Builtin.firstCells, storeCells, loadCells, loadCellsFrom]

/-- append onto the first row of what a settled slice holds. -/
theorem r_appendS {v : Value} {e : Nat} {sz nn : Nat} (h : Sta w0 U0 n E H (⟨v, e, sz, nn⟩ :: RW) F a w U) {s x : Operand} {T : Nat} {bytes m c : Nat} {A : Option Addr} {xs news : List Value} (hs : ev E s = some v) (hx : ev E x = some (.slice A m c)) (hT : ElemT P T e sz bytes)
    (hn : Cont (.slice A m c) news w U) (hl : news.length = m * sz) (h1 : news.all Value.oneCell' = true) (hc : Cont v xs w U) (hxl : xs.length = nn * sz) (hbytes : (nn + m) * bytes ≤ 140737488355328) (h63 : nn + m ≤ 1000000000000) (hd : Nat.blt d n = true)
    (kk : ∀ a v' w' U', Ext w U w' U' → Cont v' (xs ++ news) w' U' → (∃ A c, v' = .slice A (nn + m) c ∧ nn + m ≤ c) → Sta w0 U0 n ((d, v') :: E) H (⟨v', e, sz, nn + m⟩ :: RW) F a w' U' → K a w') :
    Oper.wp P ⟨some d, .call ⟨.builtin .append, [s, x].toArray, #[T, T]⟩, ty, pos, aft, gd⟩ a w K Q := by
  rcases Nat.eq_zero_or_pos m with rfl | hm
  · have hnews : news = [] := List.eq_nil_of_length_eq_zero (by simpa using hl)
    subst hnews
    obtain ⟨ht, i, z, hi, _⟩ := hT
    have hv : ∃ B c, v = .slice B nn c ∧ nn ≤ c := by
      have := (h.row ⟨v, e, sz, nn⟩ (.head _)).2
      rcases this with ⟨h1, h2⟩ | ⟨g, cap, cur, h1, _, _, h2, _⟩
      · exact ⟨none, 0, by simp only at h1 h2; rw [h1, h2], by simp only at h2; omega⟩
      · exact ⟨_, _, h1, h2⟩
    obtain ⟨B, c2, rfl, hc2⟩ := hv
    refine wp_val (v := .slice B nn c2) (w' := w) ?_ (kk _ _ _ U (Ext.refl _ _) (by simpa using hc) ⟨B, c2, rfl, hc2⟩ (h.put hd _))
    have := run_append_zero (P := P) (w := w) (ty := ty) ht hi B A nn c2 c hc2
    simp [execOp, resolve, invoke, builtin, h.eval hs, h.eval hx, this]
  · have : news ≠ [] := fun e => by
      subst e
      have := Nat.mul_pos hm (show 0 < sz from (h.row ⟨v, _, sz, nn⟩ (.head _)).1)
      simp only [List.length_nil] at hl
      omega
    rcases hn with hn | ⟨g, o, m', c', hv, hn⟩
    · exact absurd hn this
    · simp only [Value.slice.injEq] at hv
      obtain ⟨rfl, rfl, rfl⟩ := hv
      exact r_appendG h hs hx hT (fun j u hj => by rw [add_at]; exact (hn j u hj).2) hl hm h1 hc hxl hbytes h63 hd kk

/-- n elements that lie in a block of the activation's own, or nowhere. -/
def Arr (e sz : Nat) (v : Value) (k : Nat) (xs : List Value) (HB : List Blk) : Prop :=
  xs.length = k * sz ∧ ((k = 0 ∧ v = .slice none 0 0 ∧ HB = []) ∨ (0 < k ∧ ∃ g cap junk, v = .slice (some ⟨g, 0, none⟩) k cap ∧ k ≤ cap ∧ HB = [⟨g, e, xs ++ junk⟩]))
/-- append(nil, ..) of what a settled slice holds: a block of its own. -/
theorem r_appendO (h : Sta w0 U0 n E H RW F a w U) {x : Operand} {T e sz bytes m c : Nat} {A : Option Addr} {news : List Value} (hx : ev E x = some (.slice A m c)) (hT : ElemT P T e sz bytes)
    (hn : Cont (.slice A m c) news w U) (hl : news.length = m * sz) (h1 : news.all Value.oneCell' = true) (hbytes : m * bytes ≤ 140737488355328) (h63 : m ≤ 1000000000000) (hd : Nat.blt d n = true)
    (kk : ∀ a v' w' HB, Arr e sz v' m news HB → Sta w0 U0 n ((d, v') :: E) (H ++ HB) RW F a w' U → K a w') :
    Oper.wp P ⟨some d, .call ⟨.builtin .append, [.const (.slice none 0 0), x].toArray, #[T, T]⟩, ty, pos, aft, gd⟩ a w K Q := by
  obtain ⟨ht, i, z, hi, hz, hsize, hby, hzs, hsz⟩ := hT
  rcases Nat.eq_zero_or_pos m with rfl | hm
  · have hnews : news = [] := List.eq_nil_of_length_eq_zero (by simpa using hl)
    subst hnews
    refine wp_val (v := .slice none 0 0) (w' := w) ?_ (kk _ _ _ [] ⟨by simp, .inl ⟨rfl, rfl, rfl⟩⟩ (by rw [List.append_nil]; exact h.put hd _))
    have := run_append_zero (P := P) (w := w) (ty := ty) ht hi none A 0 0 c (Nat.le_refl _)
    have hcn : a.eval (.const (.slice none 0 0)) = .slice none 0 0 := rfl
    simp [execOp, resolve, invoke, builtin, h.eval hx, hcn, this]
  · have : news ≠ [] := fun e => by
      subst e
      have := Nat.mul_pos hm hsz
      simp only [List.length_nil] at hl
      omega
    rcases hn with hn | ⟨g, o, m', c', hv, hn⟩
    · exact absurd hn this
    · simp only [Value.slice.injEq] at hv
      obtain ⟨rfl, rfl, rfl⟩ := hv
      have hnews : ∀ j u, news[j]? = some u → w.cell? ((⟨g, o, none⟩ : Addr).add j) = some u := fun j u hj => by rw [add_at]; exact (hn j u hj).2
      have hrow : (Row.mk (.slice none 0 0) e sz 0).ok w U w0.heap.size := ⟨hsz, .inl ⟨rfl, rfl⟩⟩
      obtain ⟨g', cap, cur, w', hrun, k1, k2, k3, k4, k5, k6, k7, k8, k9, k10⟩ := run_append_x (P := P) (ty := ty) ht hi hz hsize hby hzs hsz hrow (xs := []) (Cont.nil _ _ _) (by simp) (ad := ⟨g, o, none⟩) (c := c) hl hnews (by simpa using h1) hm (by simpa using hbytes) (by simp only [maxLen]; omega)
      rcases k10 with ⟨rfl, k10⟩ | ⟨ho, _⟩
      · have hs : Since w U w' U := ⟨⟨k6, k7, k8, k9, k10⟩, fun _ _ => rfl, fun b hb => h.ub b (Nat.le_trans k9 hb)⟩
        have hpre : ∃ junk, cur.toList = news ++ junk := by
          refine ⟨cur.toList.drop news.length, ?_⟩
          have : cur.toList.take news.length = news := by
            apply List.ext_getElem?
            intro j
            rw [List.getElem?_take]
            by_cases hj : j < news.length
            · rw [if_pos hj]
              have := k5 j news[j] (by rw [List.nil_append]; exact List.getElem?_eq_getElem hj)
              rw [List.getElem?_eq_getElem hj, ← this]
              simp
            · rw [if_neg hj, List.getElem?_eq_none (by omega)]
          conv => lhs; rw [← List.take_append_drop news.length cur.toList, this]
        obtain ⟨junk, hcur⟩ := hpre
        have h1 := (h.grow hs).put hd (.slice (some ⟨w.heap.size, 0, none⟩) m cap)
        have hst : Sta w0 U0 n ((d, .slice (some ⟨w.heap.size, 0, none⟩) m cap) :: E) (H ++ [⟨w.heap.size, e, news ++ junk⟩]) RW F (a.put (some d) (.slice (some ⟨w.heap.size, 0, none⟩) m cap)) w' U := by
          refine { h1 with blk := fun b hb => ?_, apt := ?_ }
          · rcases List.mem_append.1 hb with hb | hb
            · exact h1.blk b hb
            · simp only [List.mem_singleton] at hb
              subst hb
              refine ⟨?_, h.ub _ (Nat.le_refl _), h.since.below.size⟩
              simp only
              rw [k1, ← hcur]
          · refine List.pairwise_append.2 ⟨h1.apt, by simp, fun b hb c hc => ?_⟩
            simp only [List.mem_singleton] at hc
            subst hc
            have := h.blk_lt hb
            simp only [ne_eq]
            omega
        refine wp_val (v := .slice (some ⟨w.heap.size, 0, none⟩) m cap) (w' := w') ?_ (kk _ _ _ _ ⟨hl, .inr ⟨hm, _, _, junk, rfl, by simpa using k2, rfl⟩⟩ hst)
        simp only [Nat.zero_add] at hrun
        have hcn : a.eval (.const (.slice none 0 0)) = .slice none 0 0 := rfl
        simp [execOp, resolve, invoke, builtin, h.eval hx, hcn, hrun]
      · simp [Value.ownBlock] at ho

theorem rem_last (b : Blk) : ∀ H : List Blk, Rem b (H ++ [b]) H
  | [] => .head
  | _ :: H => .tail (rem_last b H)
theorem Cont.pre {v : Value} {xs ys : List Value} {w : World} {U : Mk} (h : Cont v (xs ++ ys) w U) : Cont v xs w U := by
  rcases h with h | ⟨g, o, m, c, hv, h⟩
  · exact .inl (List.append_eq_nil_iff.1 h).1
  · refine .inr ⟨g, o, m, c, hv, fun j u hu => h j u ?_⟩
    rw [List.getElem?_append_left (List.getElem?_eq_some_iff.1 hu).1]
    exact hu
theorem Arr.len {e sz : Nat} {v : Value} {k : Nat} {xs : List Value} {HB : List Blk} (hA : Arr e sz v k xs HB) : ∃ A c, v = .slice A k c ∧ k ≤ c := by
  obtain ⟨_, h | ⟨_, g, cap, junk, h, hc, _⟩⟩ := hA
  · exact ⟨none, 0, by rw [h.2.1, h.1], by omega⟩
  · exact ⟨_, _, h, hc⟩
/-- It is given away: settled from now on. -/
theorem Sta.settle_arr (h : Sta w0 U0 n E H RW F a w U) {e sz : Nat} {v : Value} {k : Nat} {xs : List Value} {HB : List Blk} (hA : Arr e sz v k xs HB) (hr : ∀ b, HB = [b] → Rem b H H') (h0 : HB = [] → H = H') :
    ∃ U', Ext w U w U' ∧ Cont v xs w U' ∧ Sta w0 U0 n E H' RW F a w U' := by
  obtain ⟨hl, h1 | ⟨_, g, cap, junk, h1, hc, h2⟩⟩ := hA
  · obtain ⟨rfl, rfl, rfl⟩ := h1
    have : xs = [] := List.eq_nil_of_length_eq_zero (by simpa using hl)
    subst this
    exact ⟨U, Ext.refl _ _, Cont.nil _ _ _, h0 rfl ▸ h⟩
  · subst h1 h2
    obtain ⟨U', e1, e2, e3⟩ := h.settle_ (hr _ rfl)
    exact ⟨U', e1, (e2 _ _).pre, e3⟩

/-! ### Division -/
theorem q_quo (h : Sta w0 U0 n E H RW F a w U) {t t' : Nat} {x y : Operand} {p q : Int} (hx : ev E x = some (.int .i64 p)) (hy : ev E y = some (.int .i64 q)) (h0 : q ≠ 0) {dst : Option Tmp} : (execOp a.eval ⟨dst, .binOp .quo t x y t', ty, pos, aft, gd⟩).run P w = .ok (.value (.int .i64 (IntKind.i64.wrap (p.tdiv q)))) w := by
  simp [execOp, h.eval hx, h.eval hy, eqGuard, binOp, Op.intDiv, h0]
theorem r_quo (h : Sta w0 U0 n E H RW F a w U) {t t' : Nat} {x y : Operand} {p q : Int} (hx : ev E x = some (.int .i64 p)) (hy : ev E y = some (.int .i64 q)) (h0 : q ≠ 0) (hd : Nat.blt d n = true)
    (kk : ∀ a, Sta w0 U0 n ((d, .int .i64 (IntKind.i64.wrap (p.tdiv q))) :: E) H RW F a w U → K a w) : Oper.wp P ⟨some d, .binOp .quo t x y t', ty, pos, aft, gd⟩ a w K Q := r_val h (q_quo h hx hy h0) hd kk
theorem q_rem (h : Sta w0 U0 n E H RW F a w U) {t t' : Nat} {x y : Operand} {p q : Int} (hx : ev E x = some (.int .i64 p)) (hy : ev E y = some (.int .i64 q)) (h0 : q ≠ 0) {dst : Option Tmp} : (execOp a.eval ⟨dst, .binOp .rem t x y t', ty, pos, aft, gd⟩).run P w = .ok (.value (.int .i64 (p.tmod q))) w := by
  simp [execOp, h.eval hx, h.eval hy, eqGuard, binOp, Op.intDiv, h0]
theorem r_rem (h : Sta w0 U0 n E H RW F a w U) {t t' : Nat} {x y : Operand} {p q : Int} (hx : ev E x = some (.int .i64 p)) (hy : ev E y = some (.int .i64 q)) (h0 : q ≠ 0) (hd : Nat.blt d n = true)
    (kk : ∀ a, Sta w0 U0 n ((d, .int .i64 (p.tmod q)) :: E) H RW F a w U → K a w) : Oper.wp P ⟨some d, .binOp .rem t x y t', ty, pos, aft, gd⟩ a w K Q := r_val h (q_rem h hx hy h0) hd kk
/-- A piece of code, and what holds behind it. -/
theorem x_cut {c : Code} {a : Act} {w : World} (M : Act → World → Prop) (hk : ∀ a w, M a w → Q .normal a w) (h : c.wp P (fun e a w => match e with | .normal => M a w | _ => False) a w) : c.wp P Q a w :=
  Code.wp_mono (fun e a w hq => by cases e <;> first | exact hk _ _ hq | exact hq.elim) h
theorem Sta.perm (h : Sta w0 U0 n E H RW F a w U) (p : H.Perm H') : Sta w0 U0 n E H' RW F a w U :=
  { h with blk := fun b hb => h.blk b (p.mem_iff.2 hb), apt := h.apt.perm p (fun h => h.symm) }
end

/-! ### Cells of lists -/
theorem spl_at (cs vs : List Value) (o : Nat) (h : o + vs.length ≤ cs.length) : Spl cs o vs (cs.take o ++ vs ++ cs.drop (o + vs.length)) := by
  induction o generalizing cs with
  | zero =>
    induction vs generalizing cs with
    | nil => simpa using Spl.nil (cs := cs) (Nat.zero_le _)
    | cons v vs ih =>
      match cs, h with
      | c :: cs, h =>
        have := ih cs (by simp at h ⊢; omega)
        simpa [Nat.add_comm] using Spl.here (c := c) (v := v) this
  | succ o ih =>
    match cs, h with
    | c :: cs, h =>
      have := ih cs (by simp at h ⊢; omega)
      simpa [Nat.add_right_comm] using Spl.there (c := c) this
    | [], h => simp at h
/-- A slice that reads as a list: its cells, one behind the other. -/
theorem Sl.to_flat {T : Type} {K : EK T} {A : Option Addr} {m c : Nat} {ts : List T} {w : World} {U : Mk} (h : Sl K (.slice A m c) ts w U) : ∃ news, Cont (.slice A m c) news w U ∧ Flat K news ts w U := by
  obtain ⟨hl, hc, hat⟩ := h.at
  rcases Nat.eq_zero_or_pos m with rfl | hm
  · have : ts = [] := List.eq_nil_of_length_eq_zero hl
    subst this
    exact ⟨[], Cont.nil _ _ _, Flat.nil _ _ _⟩
  · obtain ⟨g, o, _, _, hA, _⟩ := hat 0 hm
    have key : ∀ k, k ≤ m → ∃ news, Flat K news (ts.take k) w U ∧ ∀ j u, news[j]? = some u → o + j < U g ∧ w.cell? ⟨g, o + j, none⟩ = some u := by
      intro k
      induction k with
      | zero => intro _; exact ⟨[], by simpa using Flat.nil K w U, fun j u hu => by simp at hu⟩
      | succ k ih =>
        intro hk
        obtain ⟨news, hf, hn⟩ := ih (by omega)
        obtain ⟨g', o', cs, t, hA', ht, hcl, hR, hcell⟩ := hat k (by omega)
        rw [hA] at hA'
        simp only [Option.some.injEq, Addr.mk.injEq] at hA'
        obtain ⟨rfl, rfl, _⟩ := hA'
        have hnl : news.length = k * K.sz := by rw [hf.1, List.length_take, hl, Nat.min_eq_left (by omega)]
        refine ⟨news ++ cs, ?_, fun j u hu => ?_⟩
        · rw [List.take_add_one, ht]
          exact hf.snoc hR
        · rcases Nat.lt_or_ge j news.length with hj | hj
          · rw [List.getElem?_append_left hj] at hu
            exact hn j u hu
          · rw [List.getElem?_append_right hj] at hu
            have := hcell _ u hu
            rw [show o + k * K.sz + (j - news.length) = o + j by omega] at this
            exact this
    obtain ⟨news, hf, hn⟩ := key m (Nat.le_refl _)
    rw [List.take_of_length_le (by omega)] at hf
    exact ⟨news, .inr ⟨g, o, m, c, by rw [hA], hn⟩, hf⟩
theorem Flat.one_cells {T : Type} {K : EK T} (h1 : ∀ cs t w U, K.R cs t w U → cs.all Value.oneCell' = true) {cs : List Value} {ts : List T} {w : World} {U : Mk} (h : Flat K cs ts w U) : cs.all Value.oneCell' = true := by
  rw [List.all_eq_true]
  intro v hv
  obtain ⟨j, hj, rfl⟩ := List.getElem_of_mem hv
  have hp := K.pos
  have hjt : j / K.sz < ts.length := by rw [Nat.div_lt_iff_lt_mul hp, ← h.1]; exact hj
  have hR := h.2 _ _ (List.getElem?_eq_getElem hjt)
  have := List.all_eq_true.1 (h1 _ _ _ _ hR) cs[j]
  refine this ?_
  refine List.mem_of_getElem? (i := j % K.sz) ?_
  have hm := Nat.mod_lt j hp
  rw [List.getElem?_take, if_pos hm, List.getElem?_drop, Nat.mul_comm, Nat.div_add_mod, List.getElem?_eq_getElem hj]
theorem Flat.append {T : Type} {K : EK T} {cs ds : List Value} {ts us : List T} {w : World} {U : Mk} (h : Flat K cs ts w U) (h' : Flat K ds us w U) : Flat K (cs ++ ds) (ts ++ us) w U := by
  refine ⟨by simp [h.1, h'.1, Nat.add_mul], fun j t ht => ?_⟩
  rcases Nat.lt_or_ge j ts.length with hj | hj
  · rw [List.getElem?_append_left hj] at ht
    have hjm : (j + 1) * K.sz ≤ ts.length * K.sz := Nat.mul_le_mul_right _ hj
    rw [Nat.add_mul, Nat.one_mul] at hjm
    have hl := h.1
    rw [List.drop_append_of_le_length (by omega), List.take_append_of_le_length (by simp; omega)]
    exact h.2 j t ht
  · rw [List.getElem?_append_right hj] at ht
    have := h'.2 _ t ht
    have hle : ts.length * K.sz ≤ j * K.sz := Nat.mul_le_mul_right _ hj
    have hl := h.1
    rw [List.drop_append, List.drop_eq_nil_of_le (by omega), List.nil_append]
    rw [hl, ← Nat.sub_mul]
    exact this
/-- One element is turned. -/
theorem Flat.set {T : Type} {K : EK T} {cs vs : List Value} {ts : List T} {w : World} {U : Mk} (h : Flat K cs ts w U) {i f : Nat} {t' : T} (hi : i < ts.length) (hfv : f + vs.length ≤ K.sz)
    (hR : K.R ((((cs.drop (i * K.sz)).take K.sz).take f ++ vs ++ ((cs.drop (i * K.sz)).take K.sz).drop (f + vs.length))) t' w U) :
    Flat K (cs.take (i * K.sz + f) ++ vs ++ cs.drop (i * K.sz + f + vs.length)) (ts.set i t') w U := by
  obtain ⟨hl, h⟩ := h
  have hp := K.pos
  have him : (i + 1) * K.sz ≤ ts.length * K.sz := Nat.mul_le_mul_right _ hi
  rw [Nat.add_mul, Nat.one_mul] at him
  have hnl : (cs.take (i * K.sz + f) ++ vs ++ cs.drop (i * K.sz + f + vs.length)).length = cs.length := by simp; omega
  have get : ∀ j, (cs.take (i * K.sz + f) ++ vs ++ cs.drop (i * K.sz + f + vs.length))[j]? = if j < i * K.sz + f then cs[j]? else if j < i * K.sz + f + vs.length then vs[j - (i * K.sz + f)]? else cs[j]? := by
    intro j
    simp only [List.getElem?_append, List.length_append, List.length_take, List.getElem?_take, List.getElem?_drop]
    rw [Nat.min_eq_left (by omega)]
    by_cases h1 : j < i * K.sz + f
    · rw [if_pos (by omega), if_pos h1, if_pos h1, if_pos h1]
    · by_cases h2 : j < i * K.sz + f + vs.length
      · rw [if_pos h2, if_neg h1, if_neg h1, if_pos h2]
      · rw [if_neg h2, if_neg h1, if_neg h2]
        congr 1
        omega
  refine ⟨by rw [hnl, List.length_set]; exact hl, fun j t ht => ?_⟩
  rw [List.getElem?_set] at ht
  by_cases hij : i = j
  · subst hij
    rw [if_pos rfl, if_pos hi] at ht
    simp only [Option.some.injEq] at ht
    subst ht
    have : ((cs.take (i * K.sz + f) ++ vs ++ cs.drop (i * K.sz + f + vs.length)).drop (i * K.sz)).take K.sz = (((cs.drop (i * K.sz)).take K.sz).take f ++ vs ++ ((cs.drop (i * K.sz)).take K.sz).drop (f + vs.length)) := by
      apply List.ext_getElem?
      intro q
      rw [List.getElem?_take, List.getElem?_drop, get]
      simp only [List.getElem?_append, List.length_append, List.length_take, List.length_drop, List.getElem?_take, List.getElem?_drop]
      rw [show min f (min K.sz (cs.length - i * K.sz)) = f by omega]
      by_cases hq : q < K.sz
      · rw [if_pos hq]
        by_cases h1 : q < f
        · rw [if_pos (by omega), if_pos (by omega), if_pos h1, if_pos h1, if_pos hq]
        · by_cases h2 : q < f + vs.length
          · rw [if_neg (by omega), if_pos (by omega), if_pos h2, if_neg h1]
            congr 1
            omega
          · rw [if_neg (by omega), if_neg (by omega), if_neg h2, if_pos (by omega)]
            congr 1
            omega
      · rw [if_neg hq, if_neg (by omega), if_neg (by omega)]
    rw [this]
    exact hR
  · rw [if_neg hij] at ht
    have hj : j < ts.length := (List.getElem?_eq_some_iff.1 ht).1
    have : ((cs.take (i * K.sz + f) ++ vs ++ cs.drop (i * K.sz + f + vs.length)).drop (j * K.sz)).take K.sz = (cs.drop (j * K.sz)).take K.sz := by
      apply List.ext_getElem?
      intro q
      rw [List.getElem?_take, List.getElem?_take, List.getElem?_drop, List.getElem?_drop, get]
      by_cases hq : q < K.sz
      · rw [if_pos hq, if_pos hq]
        rcases Nat.lt_or_gt_of_ne hij with hlt | hgt
        · have h1 : (i + 1) * K.sz ≤ j * K.sz := Nat.mul_le_mul_right _ hlt
          rw [Nat.add_mul, Nat.one_mul] at h1
          rw [if_neg (by omega), if_neg (by omega)]
        · have h1 : (j + 1) * K.sz ≤ i * K.sz := Nat.mul_le_mul_right _ hgt
          rw [Nat.add_mul, Nat.one_mul] at h1
          rw [if_pos (by omega)]
      · rw [if_neg hq, if_neg hq]
    rw [this]
    exact h j t ht
/-- The front of a slice; its back. -/
theorem Sl.front {T : Type} {K : EK T} {A : Option Addr} {m c : Nat} {ts : List T} {w : World} {U : Mk} (h : Sl K (.slice A m c) ts w U) (i : Nat) (hi : i ≤ m) : Sl K (.slice (if c = 0 then A else A.map (·.add 0)) i c) (ts.take i) w U := by
  obtain ⟨hl, hc, _⟩ := h.at
  have hA : (if c = 0 then A else A.map (·.add 0)) = A := by
    cases A <;> simp [Addr.add]
  rw [hA]
  obtain ⟨A', c', hv, hc', h⟩ := h
  simp only [Value.slice.injEq] at hv
  obtain ⟨rfl, _, rfl⟩ := hv
  have hti : (ts.take i).length = i := by rw [List.length_take]; omega
  refine ⟨A, c, by rw [hti], by rw [hti]; omega, fun j t ht => ?_⟩
  rw [List.getElem?_take] at ht
  split at ht
  · exact h j t ht
  · cases ht
theorem Sl.back {T : Type} {K : EK T} {A : Option Addr} {m c : Nat} {ts : List T} {w : World} {U : Mk} (h : Sl K (.slice A m c) ts w U) (i : Nat) (hi : i ≤ m) : Sl K (.slice (if c = i then A else A.map (·.add (i * K.sz))) (m - i) (c - i)) (ts.drop i) w U := by
  obtain ⟨hl, hc, _⟩ := h.at
  obtain ⟨A', c', hv, hc', h⟩ := h
  simp only [Value.slice.injEq] at hv
  obtain ⟨rfl, _, rfl⟩ := hv
  have hti : (ts.drop i).length = m - i := by rw [List.length_drop, hl]
  refine ⟨_, _, by rw [hti], by rw [hti]; omega, fun j t ht => ?_⟩
  rw [List.getElem?_drop] at ht
  obtain ⟨cs, ⟨g, o, hA, hcl, hcell⟩, hR⟩ := h (i + j) t ht
  have hj : i + j < ts.length := (List.getElem?_eq_some_iff.1 ht).1
  refine ⟨cs, ⟨g, o + i * K.sz, ?_, hcl, fun q u hu => ?_⟩, hR⟩
  · rw [if_neg (by omega), hA]; simp [add_at]
  · have := hcell q u hu
    rw [Nat.add_mul] at this
    rw [show o + i * K.sz + j * K.sz + q = o + (i * K.sz + j * K.sz) + q by omega]
    exact this
theorem oneS {cs : List Value} {t : List UInt8} {w : World} {U : Mk} (h : kS.R cs t w U) : cs.all Value.oneCell' = true := by
  obtain ⟨s, rfl, _⟩ := h; rfl
end Go.Proofs.YtjnjkbmegfkiiaaGreat
