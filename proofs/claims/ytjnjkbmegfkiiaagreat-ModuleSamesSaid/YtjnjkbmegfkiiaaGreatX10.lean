/- The small logic's tenth part: one field of one rule, or of one declaration, is turned. -/
import Derived.Test.YtjnjkbmegfkiiaaGreatX9
namespace Go.Proofs.YtjnjkbmegfkiiaaGreat
open Go.RowKit
theorem spl_arr {xs vs junk : List Value} {o i sz f : Nat} (ho : o = i * sz + f) (h : i * sz + f + vs.length ≤ xs.length) : Spl (xs ++ junk) o vs ((xs.take (i * sz + f) ++ vs ++ xs.drop (i * sz + f + vs.length)) ++ junk) := by
  subst ho
  have := spl_at (xs ++ junk) vs (i * sz + f) (by rw [List.length_append]; omega)
  rw [List.take_append_of_le_length (by omega), List.drop_append_of_le_length (by omega), ← List.append_assoc] at this
  exact this
theorem arr_nth {xs junk : List Value} {o i sz f : Nat} {v : Value} (ho : o = i * sz + f) (h : nth xs (i * sz + f) = some v) : nth (xs ++ junk) o = some v := by
  subst ho
  rw [nth_eq] at h ⊢
  rw [List.getElem?_append_left (List.getElem?_eq_some_iff.1 h).1]
  exact h
theorem arr_len {xs vs : List Value} {o : Nat} (h : o + vs.length ≤ xs.length) : (xs.take o ++ vs ++ xs.drop (o + vs.length)).length = xs.length := by
  simp only [List.length_append, List.length_take, List.length_drop]; omega
theorem Flat.lift {T : Type} {K K' : EK T} {cs : List Value} {ts : List T} {w : World} {U : Mk} (h : Flat K cs ts w U) (hs : K.sz = K'.sz) (hR : ∀ cs t, K.R cs t w U → K'.R cs t w U) : Flat K' cs ts w U := by
  unfold Flat at *
  rw [← hs]
  exact ⟨h.1, fun j t ht => hR _ _ (h.2 j t ht)⟩
theorem Sl.lift {T : Type} {K K' : EK T} {v : Value} {ts : List T} {w : World} {U : Mk} (h : Sl K v ts w U) (hs : K.sz = K'.sz) (hR : ∀ cs t, K.R cs t w U → K'.R cs t w U) : Sl K' v ts w U := by
  obtain ⟨A, c, hv, hc, h⟩ := h
  exact ⟨A, c, hv, hc, fun j t ht => by obtain ⟨cs, h1, h2⟩ := h j t ht; exact ⟨cs, hs ▸ h1, hR _ _ h2⟩⟩
theorem upD {N M : Nat} (hn : N ≤ M) {w : World} {U : Mk} (cs : List Value) (t : DaT) (h : (kDn N).R cs t w U) : (kDn M).R cs t w U := by
  obtain ⟨nm, v, u, x, y, h1, h2, h3, h4, h5, h6⟩ := h
  exact ⟨nm, v, u, x, y, h1, h2, h3, h4, by omega, by omega⟩
theorem upR {N M : Nat} (hn : N ≤ M) {w : World} {U : Mk} (cs : List Value) (t : RuT) (h : (kRn N).R cs t w U) : (kRn M).R cs t w U := by
  obtain ⟨nm, v, u, bs, x, y, h1, h2, h3, h4, h5, h6⟩ := h
  exact ⟨nm, v, u, bs, x, y, h1, h2, h3, h4, h5, by omega⟩
section
variable {w : World} {U : Mk} {xs : List Value} {i : Nat}
theorem at_cell {sz : Nat} {xs cs : List Value} (h : (xs.drop (i * sz)).take sz = cs) {f : Nat} (hf : f < sz) {v : Value} (hv : cs[f]? = some v) : nth xs (i * sz + f) = some v := by
  rw [nth_eq, ← hv, ← h, List.getElem?_take, if_pos hf, List.getElem?_drop]
/-! #### Rules -/
variable {ps : List RuT}
theorem rule_at (h : Flat kR xs ps w U) (hi : i < ps.length) : ∃ t A l c, ps[i]? = some t ∧ nth xs (i * 11 + 1) = some (.slice A l c) ∧ Sl kE (.slice A l c) t.pats w U ∧ t.pats.length ≤ 100000000 := by
  obtain ⟨nm, v, u, bs, x, y, hcs, _, hv, _, _, hl⟩ := h.2 i _ (List.getElem?_eq_getElem hi)
  obtain ⟨A, l, c, rfl⟩ := hv.slice
  exact ⟨_, A, l, c, List.getElem?_eq_getElem hi, at_cell hcs (by decide) rfl, hv, hl⟩
theorem rule_name (h : Flat kR xs ps w U) (hi : i < ps.length) (s : ByteArray) : ∃ ps', Flat (kRn 100000001) (xs.take (i * 11 + 0) ++ [.string s] ++ xs.drop (i * 11 + 0 + 1)) ps' w U ∧ ps'.length = ps.length := by
  obtain ⟨nm, v, u, bs, x, y, hcs, _, hv, hu, hb, hl⟩ := h.2 i _ (List.getElem?_eq_getElem hi)
  refine ⟨ps.set i ⟨s.toList, ps[i].pats, ps[i].guard, ps[i].body⟩, Flat.set (K := kRn 100000001) (f := 0) (vs := [.string s]) (h.lift rfl (upR (by omega))) hi (Nat.le_of_ble_eq_true rfl) ?_, List.length_set⟩
  have hcs' : (xs.drop (i * (kRn 100000001).sz)).take (kRn 100000001).sz = _ := hcs
  rw [hcs']
  exact ⟨s, v, u, bs, x, y, rfl, rfl, hv, hu, hb, by simp only []; omega⟩
theorem rule_pats (h : Flat kR xs ps w U) (hi : i < ps.length) {v' : Value} {qs : List ExT} (hv' : Sl kE v' qs w U) (hq : qs.length ≤ 100000001) : ∃ ps', Flat (kRn 100000001) (xs.take (i * 11 + 1) ++ [v'] ++ xs.drop (i * 11 + 1 + 1)) ps' w U ∧ ps'.length = ps.length := by
  obtain ⟨nm, v, u, bs, x, y, hcs, hn, hv, hu, hb, hl⟩ := h.2 i _ (List.getElem?_eq_getElem hi)
  refine ⟨ps.set i ⟨nm.toList, qs, ps[i].guard, ps[i].body⟩, Flat.set (K := kRn 100000001) (f := 1) (vs := [v']) (h.lift rfl (upR (by omega))) hi (Nat.le_of_ble_eq_true rfl) ?_, List.length_set⟩
  have hcs' : (xs.drop (i * (kRn 100000001).sz)).take (kRn 100000001).sz = _ := hcs
  rw [hcs']
  exact ⟨nm, v', u, bs, x, y, rfl, rfl, hv', hu, hb, hq⟩
theorem rule_guard (h : Flat kR xs ps w U) (hi : i < ps.length) {v' : Value} {qs : List ExT} (hv' : Sl kE v' qs w U) : ∃ ps', Flat (kRn 100000001) (xs.take (i * 11 + 2) ++ [v'] ++ xs.drop (i * 11 + 2 + 1)) ps' w U ∧ ps'.length = ps.length := by
  obtain ⟨nm, v, u, bs, x, y, hcs, hn, hv, hu, hb, hl⟩ := h.2 i _ (List.getElem?_eq_getElem hi)
  refine ⟨ps.set i ⟨nm.toList, ps[i].pats, qs, ps[i].body⟩, Flat.set (K := kRn 100000001) (f := 2) (vs := [v']) (h.lift rfl (upR (by omega))) hi (Nat.le_of_ble_eq_true rfl) ?_, List.length_set⟩
  have hcs' : (xs.drop (i * (kRn 100000001).sz)).take (kRn 100000001).sz = _ := hcs
  rw [hcs']
  exact ⟨nm, v, v', bs, x, y, rfl, rfl, hv, hv', hb, by simp only []; omega⟩
theorem rule_body (h : Flat kR xs ps w U) (hi : i < ps.length) {bs' : List Value} {b : ExT} (hb' : ERep w U bs' b) : ∃ ps', Flat (kRn 100000001) (xs.take (i * 11 + 3) ++ bs' ++ xs.drop (i * 11 + 3 + bs'.length)) ps' w U ∧ ps'.length = ps.length := by
  obtain ⟨nm, v, u, bs, x, y, hcs, hn, hv, hu, hb, hl⟩ := h.2 i _ (List.getElem?_eq_getElem hi)
  have hl' : bs'.length = 6 := kE.len hb'
  have hlb : bs.length = 6 := kE.len hb
  refine ⟨ps.set i ⟨nm.toList, ps[i].pats, ps[i].guard, b⟩, Flat.set (K := kRn 100000001) (f := 3) (vs := bs') (h.lift rfl (upR (by omega))) hi (by rw [hl']; exact Nat.le_of_ble_eq_true rfl) ?_, List.length_set⟩
  have hcs' : (xs.drop (i * (kRn 100000001).sz)).take (kRn 100000001).sz = _ := hcs
  rw [hcs', hl']
  refine ⟨nm, v, u, bs', x, y, ?_, rfl, hv, hu, hb', by simp only []; omega⟩
  simp [hlb]
theorem var_rep (s : ByteArray) (w : World) (U : Mk) : ERep w U [.int .i64 1, .string s, .int .i64 0, .slice none 0 0, .int .i64 0, .int .i64 0] (.mk 1 s.toList 0 []) := ERep.of_sl (Sl.nil _ _ _ _ _)
/-! #### Declarations -/
variable {ts : List DaT}
theorem data_at (h : Flat kD xs ts w U) (hi : i < ts.length) : ∃ t A l c B j d, ts[i]? = some t ∧ nth xs (i * 5 + 1) = some (.slice A l c) ∧ Sl kS (.slice A l c) t.vars w U ∧ t.vars.length ≤ 100000000 ∧ nth xs (i * 5 + 2) = some (.slice B j d) ∧ Sl kC (.slice B j d) t.cons w U ∧ t.cons.length ≤ 100000000 := by
  obtain ⟨nm, v, u, x, y, hcs, _, hv, hu, hl, hl2⟩ := h.2 i _ (List.getElem?_eq_getElem hi)
  obtain ⟨A, l, c, rfl⟩ := hv.slice
  obtain ⟨B, j, d, rfl⟩ := hu.slice
  exact ⟨_, A, l, c, B, j, d, List.getElem?_eq_getElem hi, at_cell hcs (by decide) rfl, hv, hl, at_cell hcs (by decide) rfl, hu, hl2⟩
theorem data_name (h : Flat kD xs ts w U) (hi : i < ts.length) (s : ByteArray) : ∃ ts', Flat (kDn 100000001) (xs.take (i * 5 + 0) ++ [.string s] ++ xs.drop (i * 5 + 0 + 1)) ts' w U ∧ ts'.length = ts.length := by
  obtain ⟨nm, v, u, x, y, hcs, _, hv, hu, hl, hl2⟩ := h.2 i _ (List.getElem?_eq_getElem hi)
  refine ⟨ts.set i ⟨s.toList, ts[i].vars, ts[i].cons⟩, Flat.set (K := kDn 100000001) (f := 0) (vs := [.string s]) (h.lift rfl (upD (by omega))) hi (Nat.le_of_ble_eq_true rfl) ?_, List.length_set⟩
  have hcs' : (xs.drop (i * (kDn 100000001).sz)).take (kDn 100000001).sz = _ := hcs
  rw [hcs']
  exact ⟨s, v, u, x, y, rfl, rfl, hv, hu, by simp only []; omega, by simp only []; omega⟩
theorem data_vars (h : Flat kD xs ts w U) (hi : i < ts.length) {v' : Value} {qs : List (List UInt8)} (hv' : Sl kS v' qs w U) (hq : qs.length ≤ 100000001) : ∃ ts', Flat (kDn 100000001) (xs.take (i * 5 + 1) ++ [v'] ++ xs.drop (i * 5 + 1 + 1)) ts' w U ∧ ts'.length = ts.length := by
  obtain ⟨nm, v, u, x, y, hcs, _, hv, hu, hl, hl2⟩ := h.2 i _ (List.getElem?_eq_getElem hi)
  refine ⟨ts.set i ⟨nm.toList, qs, ts[i].cons⟩, Flat.set (K := kDn 100000001) (f := 1) (vs := [v']) (h.lift rfl (upD (by omega))) hi (Nat.le_of_ble_eq_true rfl) ?_, List.length_set⟩
  have hcs' : (xs.drop (i * (kDn 100000001).sz)).take (kDn 100000001).sz = _ := hcs
  rw [hcs']
  exact ⟨nm, v', u, x, y, rfl, rfl, hv', hu, hq, by simp only []; omega⟩
theorem data_cons (h : Flat kD xs ts w U) (hi : i < ts.length) {v' : Value} {qs : List CoT} (hv' : Sl kC v' qs w U) (hq : qs.length ≤ 100000001) : ∃ ts', Flat (kDn 100000001) (xs.take (i * 5 + 2) ++ [v'] ++ xs.drop (i * 5 + 2 + 1)) ts' w U ∧ ts'.length = ts.length := by
  obtain ⟨nm, v, u, x, y, hcs, _, hv, hu, hl, hl2⟩ := h.2 i _ (List.getElem?_eq_getElem hi)
  refine ⟨ts.set i ⟨nm.toList, ts[i].vars, qs⟩, Flat.set (K := kDn 100000001) (f := 2) (vs := [v']) (h.lift rfl (upD (by omega))) hi (Nat.le_of_ble_eq_true rfl) ?_, List.length_set⟩
  have hcs' : (xs.drop (i * (kDn 100000001).sz)).take (kDn 100000001).sz = _ := hcs
  rw [hcs']
  exact ⟨nm, v, v', x, y, rfl, rfl, hv, hv', by simp only []; omega, hq⟩
theorem con_rep (s : ByteArray) (w : World) (U : Mk) : kC.R [.string s, .slice none 0 0, .int .i64 0, .int .i64 0] ⟨s.toList, []⟩ w U := ⟨s, _, _, _, rfl, rfl, Sl.nil _ _ _ _ _⟩
end
section
variable {w0 : World} {U0 : Mk} {n : Nat} {E : List (Nat × Value)} {H : List Blk} {RW : List Row} {F : Fact} {a : Act} {w : World} {U : Mk}
variable {P : Program} {K : Act → World → Prop} {Q : Exit → Act → World → Prop}
variable {d : Nat} {ty : Nat} {pos : String} {aft : Array Edge} {gd : Option (Nat × Bool)}
theorem r_quo2 (h : Sta w0 U0 n E H RW F a w U) {t t' : Nat} {x y : Operand} {p q : Int} (hx : ev E x = some (.int .i64 p)) (hy : ev E y = some (.int .i64 q)) (hp : 0 ≤ p) (hq : 0 < q) (hm : p ≤ 9223372036854775807) (hd : Nat.blt d n = true)
    (kk : ∀ a z, 0 ≤ z → z ≤ p → Sta w0 U0 n ((d, .int .i64 z) :: E) H RW F a w U → K a w) : Oper.wp P ⟨some d, .binOp .quo t x y t', ty, pos, aft, gd⟩ a w K Q := by
  refine r_quo h hx hy (by omega) hd fun a hst => ?_
  have h1 : 0 ≤ p.tdiv q := Int.tdiv_nonneg hp (by omega)
  have h2 : p.tdiv q ≤ p := by rw [Int.tdiv_eq_ediv_of_nonneg hp]; exact Int.ediv_le_self q hp
  rw [wrap_in _ (by omega) (by omega)] at hst
  exact kk a _ h1 h2 hst
theorem r_rem2 (h : Sta w0 U0 n E H RW F a w U) {t t' : Nat} {x y : Operand} {p q : Int} (hx : ev E x = some (.int .i64 p)) (hy : ev E y = some (.int .i64 q)) (hp : 0 ≤ p) (hq : 0 < q) (hd : Nat.blt d n = true)
    (kk : ∀ a z, 0 ≤ z → z < q → Sta w0 U0 n ((d, .int .i64 z) :: E) H RW F a w U → K a w) : Oper.wp P ⟨some d, .binOp .rem t x y t', ty, pos, aft, gd⟩ a w K Q :=
  r_rem h hx hy (by omega) hd fun a hst => kk a _ (Int.tmod_nonneg q hp) (Int.tmod_lt_of_pos p hq) hst
end
end Go.Proofs.YtjnjkbmegfkiiaaGreat
