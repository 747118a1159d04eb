/- The small logic's eighth part: regions that draw, with settled memory; function values; lists that are equal. -/
import Derived.Test.YtjnjkbmegfkiiaaGreatX7
import Derived.Laws.Small
namespace Go.Proofs.YtjnjkbmegfkiiaaGreat
open Go.RowKit
section
variable {w0 : World} {U0 : Mk} {n : Nat} {E E' : List (Nat × Value)} {H H' L : List Blk} {RW RW' : List Row} {F F1 G : Fact} {a : Act} {w w' w1 : World} {U U' U1 : Mk}
variable {P : Program} {K : Act → World → Prop} {Q Q' : Exit → Act → World → Prop} {ops : Array Oper}
variable {d : Nat} {ty : Nat} {pos : String} {aft : Array Edge} {gd : Option (Nat × Bool)}
theorem Ext.monoF (w1 : World) (U1 : Mk) : Mono (fun w U => Ext w1 U1 w U) := fun _ _ _ _ e h => h.trans e
theorem Ext.fix (h : Ext w1 U1 w U) : Ext w1 U1 w U1 := ⟨h.size, fun _ => Nat.le_refl _, h.cell⟩
/-- What the operations of a region lean on: these blocks, and what was settled at its start. -/
def Kept (L : List Blk) (w1 : World) (U1 : Mk) (w : World) : Prop := Held L w ∧ Ext w1 U1 w U1
structure Start (L : List Blk) (F : Fact) (w : World) (U : Mk) : Prop where
  ub : UB w U
  blk : ∀ b ∈ L, U b.g = 0
  mono : Mono F
  fact : F w U
abbrev Both (w1 : World) (U1 : Mk) (F : Fact) : Fact := fun w U => Ext w1 U1 w U ∧ F w U
theorem Start.seen (s : Start L F w1 U1) (h : Sta w0 U0 n E H RW G a w U) (hL : L.Sublist H) (hw : Kept L w1 U1 w') : Sta { w' with heap := #[] } (fun _ => 0) n E L [] F a w' U1 :=
  ⟨h.size, h.defs, h.env, ⟨⟨rfl, rfl, rfl, Nat.zero_le _, fun k hk => absurd hk (Nat.not_lt_zero k)⟩, fun b hb => absurd hb (Nat.not_lt_zero b), fun b hb => s.ub b (Nat.le_trans hw.2.size hb)⟩,
    fun b hb => ⟨hw.1 b hb, s.blk b hb, Nat.zero_le _⟩, h.apt.sublist hL, fun _ h => absurd h List.not_mem_nil, List.Pairwise.nil, s.mono, s.mono _ _ _ _ hw.2 s.fact⟩
theorem Sta.kept (h : Sta w0 U0 n E H RW (Both w1 U1 G) a w U) (hL : L.Sublist H) : Kept L w1 U1 w := ⟨h.held hL, h.fact.1.fix⟩
theorem x_drawf {id : Nat} {l : List Oper} (hm : P.follows .mixedOrders = true) (h : Sta w0 U0 n E H RW F a w U) (hL : L.Sublist H)
    (k : ∀ w, Start L F w U → Sta w0 U0 n E H RW (Both w U F) a w U → wpAnyH P .any l.toArray Q (Kept L w U) l.length (List.replicate l.length false).toArray a w) : (Code.region id l.toArray true).wp P Q a w := by
  refine wp_region_held (S := Kept L { w with drawn := w.drawn + 1 } U) hm ?_
  have hd := h.draw
  have := k _ ⟨hd.ub, fun b hb => (hd.blk b (hL.subset hb)).2.1, hd.mono, hd.fact⟩ (hd.addFact (Ext.monoF _ _) (Ext.refl _ _))
  simpa using this
theorem f_take {i d fuel : Nat} {o : Oper} {v : Value} {ls : List Bool} (s : Start L F w1 U1) (h : Sta w0 U0 n E H RW (Both w1 U1 G) a w U) (hL : L.Sublist H) (ho : ops[i]? = some o) (hg : o.guard = none) (hod : o.dst = some d) (hd : Nat.blt d n = true)
    (hs : Region.noSelect ops = true) (hf : Region.free .any ops ls.toArray i = true) (hr : (Region.ready .any ops ls.toArray).contains i = true) (hQ : ∀ c a w, Q (.panic c) (a.put (some d) v) w → Q (.panic c) a w)
    (hrun : ∀ w0 U0 w U, Sta w0 U0 n E L [] F a w U → (execOp a.eval o).run P w = .ok (.value v) w)
    (k : ∀ a, Sta w0 U0 n ((d, v) :: E) H RW (Both w1 U1 G) a w U → wpAnyH P .any ops Q (Kept L w1 U1) fuel (ls.set i true).toArray a w) : wpAnyH P .any ops Q (Kept L w1 U1) (fuel + 1) ls.toArray a w := by
  refine wpAnyH_take ho hs hf hr (v := v) ?_ (.inl ⟨by simp [Region.wanted, hg], fun w' hw' => hrun _ _ _ _ (s.seen h hL hw')⟩) (h.kept hL) ?_
  · rw [hod]; exact hQ
  · rw [hod]
    have := k _ (h.put hd v)
    simpa using this
/-- A guarded one that is wanted. -/
theorem f_takeg {i d fuel j t : Nat} {b : Bool} {o : Oper} {v : Value} {ls : List Bool} (s : Start L F w1 U1) (h : Sta w0 U0 n E H RW (Both w1 U1 G) a w U) (hL : L.Sublist H) (ho : ops[i]? = some o) (hg : o.guard = some (j, b)) (hj : (ops[j]?).bind (·.dst) = some t) (ht : look E t = some (.bool b)) (hod : o.dst = some d) (hd : Nat.blt d n = true)
    (hs : Region.noSelect ops = true) (hf : Region.free .any ops ls.toArray i = true) (hr : (Region.ready .any ops ls.toArray).contains i = true) (hQ : ∀ c a w, Q (.panic c) (a.put (some d) v) w → Q (.panic c) a w)
    (hrun : ∀ w0 U0 w U, Sta w0 U0 n E L [] F a w U → (execOp a.eval o).run P w = .ok (.value v) w)
    (k : ∀ a, Sta w0 U0 n ((d, v) :: E) H RW (Both w1 U1 G) a w U → wpAnyH P .any ops Q (Kept L w1 U1) fuel (ls.set i true).toArray a w) : wpAnyH P .any ops Q (Kept L w1 U1) (fuel + 1) ls.toArray a w := by
  refine wpAnyH_take ho hs hf hr (v := v) ?_ (.inl ⟨by simp [Region.wanted, hg, h.yield hj ht], fun w' hw' => hrun _ _ _ _ (s.seen h hL hw')⟩) (h.kept hL) ?_
  · rw [hod]; exact hQ
  · rw [hod]
    have := k _ (h.put hd v)
    simpa using this
/-- A guarded one that is not wanted. -/
theorem f_skip {i d fuel j t : Nat} {b b' : Bool} {o : Oper} {ls : List Bool} (h : Sta w0 U0 n E H RW (Both w1 U1 G) a w U) (hL : L.Sublist H) (ho : ops[i]? = some o) (hg : o.guard = some (j, b)) (hj : (ops[j]?).bind (·.dst) = some t) (ht : look E t = some (.bool b')) (hne : b' ≠ b) (hod : o.dst = some d) (hd : Nat.blt d n = true)
    (hs : Region.noSelect ops = true) (hf : Region.free .any ops ls.toArray i = true) (hr : (Region.ready .any ops ls.toArray).contains i = true) (hQ : ∀ c a w, Q (.panic c) (a.put (some d) undef) w → Q (.panic c) a w)
    (k : ∀ a, Sta w0 U0 n ((d, undef) :: E) H RW (Both w1 U1 G) a w U → wpAnyH P .any ops Q (Kept L w1 U1) fuel (ls.set i true).toArray a w) : wpAnyH P .any ops Q (Kept L w1 U1) (fuel + 1) ls.toArray a w := by
  refine wpAnyH_take ho hs hf hr (v := undef) ?_ (.inr ⟨by simp [Region.wanted, hg, h.yield hj ht]; exact hne, rfl⟩) (h.kept hL) ?_
  · rw [hod]; exact hQ
  · rw [hod]
    have := k _ (h.put hd undef)
    simpa using this
theorem f_undef {i d fuel j t : Nat} {b : Bool} {o : Oper} {ls : List Bool} (h : Sta w0 U0 n E H RW (Both w1 U1 G) a w U) (hL : L.Sublist H) (ho : ops[i]? = some o) (hg : o.guard = some (j, b)) (hj : (ops[j]?).bind (·.dst) = some t) (ht : look E t = some undef) (hod : o.dst = some d) (hd : Nat.blt d n = true)
    (hs : Region.noSelect ops = true) (hf : Region.free .any ops ls.toArray i = true) (hr : (Region.ready .any ops ls.toArray).contains i = true) (hQ : ∀ c a w, Q (.panic c) (a.put (some d) undef) w → Q (.panic c) a w)
    (k : ∀ a, Sta w0 U0 n ((d, undef) :: E) H RW (Both w1 U1 G) a w U → wpAnyH P .any ops Q (Kept L w1 U1) fuel (ls.set i true).toArray a w) : wpAnyH P .any ops Q (Kept L w1 U1) (fuel + 1) ls.toArray a w := by
  have h2 : yielded ops a.tmps j = none := by simp [yielded, hj, h.env t _ ht, undef]
  refine wpAnyH_take ho hs hf hr (v := undef) ?_ (.inr ⟨by simp [Region.wanted, hg, h2], rfl⟩) (h.kept hL) ?_
  · rw [hod]; exact hQ
  · rw [hod]
    have := k _ (h.put hd undef)
    simpa using this
theorem f_one {i fuel : Nat} {o : Oper} {ls : List Bool} (hr : Region.ready .any ops ls.toArray = [i]) (ho : ops[i]? = some o) (hg : o.guard = none)
    (h : o.wp P a w (fun a' w' => Kept L w1 U1 w' ∧ wpAnyH P .any ops Q (Kept L w1 U1) fuel (ls.set i true).toArray a' w') Q) : wpAnyH P .any ops Q (Kept L w1 U1) (fuel + 1) ls.toArray a w :=
  wpAnyH_all hr (by simp) fun j hj => by
    simp at hj
    subst hj
    unfold wpOp
    rw [ho]
    simp only
    rw [if_pos (by simp [Region.wanted, hg])]
    exact .inl (by simpa using h)
theorem f_oneg {i fuel j t : Nat} {b : Bool} {o : Oper} {ls : List Bool} (hst : Sta w0 U0 n E H RW (Both w1 U1 G) a w U) (hr : Region.ready .any ops ls.toArray = [i]) (ho : ops[i]? = some o) (hg : o.guard = some (j, b)) (hj : (ops[j]?).bind (·.dst) = some t) (ht : look E t = some (.bool b))
    (h : o.wp P a w (fun a' w' => Kept L w1 U1 w' ∧ wpAnyH P .any ops Q (Kept L w1 U1) fuel (ls.set i true).toArray a' w') Q) : wpAnyH P .any ops Q (Kept L w1 U1) (fuel + 1) ls.toArray a w :=
  wpAnyH_all hr (by simp) fun x hx => by
    simp at hx
    subst hx
    unfold wpOp
    rw [ho]
    simp only
    rw [if_pos (by simp [Region.wanted, hg, hst.yield hj ht])]
    exact .inl (by simpa using h)
theorem f_two {i j fuel : Nat} {o o' : Oper} {ls : List Bool} (hr : Region.ready .any ops ls.toArray = [i, j]) (ho : ops[i]? = some o) (hg : o.guard = none) (ho' : ops[j]? = some o') (hg' : o'.guard = none)
    (h : o.wp P a w (fun a' w' => Kept L w1 U1 w' ∧ wpAnyH P .any ops Q (Kept L w1 U1) fuel (ls.set i true).toArray a' w') Q)
    (h' : o'.wp P a w (fun a' w' => Kept L w1 U1 w' ∧ wpAnyH P .any ops Q (Kept L w1 U1) fuel (ls.set j true).toArray a' w') Q) : wpAnyH P .any ops Q (Kept L w1 U1) (fuel + 1) ls.toArray a w :=
  wpAnyH_all hr (by simp) fun x hx => by
    simp at hx
    rcases hx with rfl | rfl
    · unfold wpOp
      rw [ho]
      simp only
      rw [if_pos (by simp [Region.wanted, hg])]
      exact .inl (by simpa using h)
    · unfold wpOp
      rw [ho']
      simp only
      rw [if_pos (by simp [Region.wanted, hg'])]
      exact .inl (by simpa using h')
theorem f_done {ls : List Bool} (hr : Region.ready .any ops ls.toArray = []) (h : Q .normal a w) : wpAnyH P .any ops Q (Kept L w1 U1) 0 ls.toArray a w := wpAnyH_done hr h 0
theorem Start.back (s : Start L F w1 U1) (h : Sta w0 U0 n E H RW (Both w1 U1 F) a w U) : Sta w0 U0 n E H RW F a w U := h.setFact s.mono (fun h => h.2)

/-! ### Settled cells -/
/-- These cells lie settled at o of block g. -/
def Eat (g o : Nat) (cs : List Value) : Fact := fun w U => ∀ q u, cs[q]? = some u → o + q < U g ∧ w.cell? ⟨g, o + q, none⟩ = some u
theorem Eat.mono (g o : Nat) (cs : List Value) : Mono (Eat g o cs) := fun _ _ _ _ e h q u hu => ⟨Nat.lt_of_lt_of_le (h q u hu).1 (e.mark g), e.cell _ _ _ (h q u hu).1 (h q u hu).2⟩
theorem q_eats (h : Sta w0 U0 n E H RW F a w U) {t : Nat} {x : Operand} {g p o j : Nat} {cs : List Value} {v : Value} (hx : ev E x = some (.pointer (some ⟨g, p, none⟩))) (ha : Sca P t) (he : Eat g o cs w U) (hp : p = o + j) (hv : nth cs j = some v) {dst : Option Tmp} : (execOp a.eval ⟨dst, .load t x, ty, pos, aft, gd⟩).run P w = .ok (.value v) w := by
  subst hp
  have := run_loadVar_sca (P := P) (w := w) (g := g) (o := o + j) ha ((he j v (by rw [← nth_eq]; exact hv)).2)
  simp [execOp, Instr.loadAt, Instr.sureAddr, h.eval hx, this]
theorem q_eata (h : Sta w0 U0 n E H RW F a w U) {t : Nat} {x : Operand} {g p o j k : Nat} {cs vs : List Value} (hx : ev E x = some (.pointer (some ⟨g, p, none⟩))) (ha : Agg P t k) (he : Eat g o cs w U) (hp : p = o + j) (hv : Nths cs j vs) (hl : vs.length = k) {dst : Option Tmp} : (execOp a.eval ⟨dst, .load t x, ty, pos, aft, gd⟩).run P w = .ok (.value (.agg vs.toArray)) w := by
  subst hp
  have := run_loadVar_agg (P := P) (w := w) (g := g) (o := o + j) ha hl fun q u hq => by
    rw [Nat.add_assoc]
    exact (he _ _ (hv.get q u hq)).2
  simp [execOp, Instr.loadAt, Instr.sureAddr, h.eval hx, this]
theorem r_eats (h : Sta w0 U0 n E H RW F a w U) {t : Nat} {x : Operand} {g p o j : Nat} {cs : List Value} {v : Value} (hx : ev E x = some (.pointer (some ⟨g, p, none⟩))) (ha : Sca P t) (he : Eat g o cs w U) (hp : p = o + j) (hv : nth cs j = some v) (hd : Nat.blt d n = true)
    (kk : ∀ a, Sta w0 U0 n ((d, v) :: E) H RW F a w U → K a w) : Oper.wp P ⟨some d, .load t x, ty, pos, aft, gd⟩ a w K Q := r_val h (q_eats h hx ha he hp hv) hd kk
theorem r_eata (h : Sta w0 U0 n E H RW F a w U) {t : Nat} {x : Operand} {g p o j k : Nat} {cs vs : List Value} (hx : ev E x = some (.pointer (some ⟨g, p, none⟩))) (ha : Agg P t k) (he : Eat g o cs w U) (hp : p = o + j) (hv : Nths cs j vs) (hl : vs.length = k) (hd : Nat.blt d n = true)
    (kk : ∀ a, Sta w0 U0 n ((d, .agg vs.toArray) :: E) H RW F a w U → K a w) : Oper.wp P ⟨some d, .load t x, ty, pos, aft, gd⟩ a w K Q := r_val h (q_eata h hx ha he hp hv hl) hd kk

/-! ### Function values -/
theorem r_callv (h : Sta w0 U0 n E H RW F a w U) {f : Nat} {x : Operand} {xs : List Operand} {vs : List Value} {tys : Array Nat} {R : Value → World → Mk → Prop} (hf : ev E x = some (.func (.func f) #[] #[])) (hx : evs E xs = some vs) (he : Enters P f) (hc : CallsS P f vs w U R) (hd : Nat.blt d n = true)
    (kk : ∀ a v w' U', R v w' U' → Sta w0 U0 n ((d, v) :: E) H RW F a w' U' → K a w') : Oper.wp P ⟨some d, .call ⟨.value x, xs.toArray, tys⟩, ty, pos, aft, gd⟩ a w K Q := by
  have harg : (xs.toArray.map a.eval) = vs.toArray := by rw [List.map_toArray, h.evals hx]
  obtain ⟨fn, hfn, hb⟩ : ∃ fn, P.funcs[f]? = some fn ∧ (!(fn.name == "runtime.NumGoroutine") && !fn.body.isNone) = true := by
    unfold Enters at he
    cases hf : P.funcs[f]? with
    | none => simp [hf] at he
    | some fn => exact ⟨fn, rfl, by simpa [hf] using he⟩
  simp only [Bool.and_eq_true, Bool.not_eq_true'] at hb
  unfold Oper.wp
  have hrun : (execOp a.eval ⟨some d, .call ⟨.value x, xs.toArray, tys⟩, ty, pos, aft, gd⟩).run P w = .ok (.enter f vs.toArray) w := by
    have h1 : ¬ fn.name = "runtime.NumGoroutine" := by simpa using hb.1
    have h2 : ¬ fn.body = none := fun e => by simp [e] at hb
    simp [execOp, resolve, Deferred.ofValue, h.eval hf, invoke, callFunc, hfn, h1, h2, ← harg]
  rw [hrun]
  show Calls P f vs.toArray w _
  refine (hc h.ub).mono ?_
  rintro e w' ⟨v, U', rfl, hs, hR⟩
  exact kk _ _ _ _ hR ((h.grow hs).put hd v)
end

/-! ### Lists that are equal -/
theorem eq_all {T : Type} {ts us : List T} {i : Int} {k : Nat} (h : ts.take i.toNat = us.take i.toNat) (h1 : ts.length = k) (h2 : us.length = k) (hi : ¬ i < k) : ts = us := by
  rwa [List.take_of_length_le (by omega), List.take_of_length_le (by omega)] at h
theorem eq_ne {T : Type} {ts us : List T} {t u : T} {j : Nat} (h1 : ts[j]? = some t) (h2 : us[j]? = some u) (hne : t ≠ u) : ts ≠ us := fun e => by
  subst e; rw [h1] at h2; exact hne (Option.some.inj h2)
theorem eq_next {T : Type} {ts us : List T} {t u : T} {i : Int} (h : ts.take i.toNat = us.take i.toNat) (h0 : 0 ≤ i) (h1 : ts[i.toNat]? = some t) (h2 : us[i.toNat]? = some u) (he : t = u) : ts.take (i + 1).toNat = us.take (i + 1).toNat := by
  have : (i + 1).toNat = i.toNat + 1 := by omega
  rw [this, List.take_add_one, List.take_add_one, h, h1, h2, he]
theorem eq_len {T : Type} {ts us : List T} {k l : Nat} (h1 : ts.length = k) (h2 : us.length = l) (hne : k ≠ l) : ts ≠ us := fun e => by subst e; omega
/-- The function f tells whether two elements are the same (its further arguments: ex). -/
def EqF {T : Type} (P : Program) (f : Nat) (K : EK T) (ex : List Value) (t u : T) : Prop := ∀ w U cs ds, K.R cs t w U → K.R ds u w U →
  CallsS P f (.agg cs.toArray :: .agg ds.toArray :: ex) w U (fun v _ _ => ∃ b : Bool, v = .bool b ∧ (b = true ↔ t = u))
theorem Sl.at_ {T : Type} {K : EK T} {A : Option Addr} {k c : Nat} {ts : List T} {w : World} {U : Mk} (h : Sl K (.slice A k c) ts w U) : ∀ j, j < k → ∃ g o cs t, A = some ⟨g, o, none⟩ ∧ ts[j]? = some t ∧ K.R cs t w U ∧ Eat g (o + j * K.sz) cs w U := by
  intro j hj
  obtain ⟨_, _, hat⟩ := h.at
  obtain ⟨g, o, cs, t, hA, ht, _, hR, hc⟩ := hat j hj
  exact ⟨g, o, cs, t, hA, ht, hR, hc⟩
theorem Sl.len {T : Type} {K : EK T} {A : Option Addr} {k c : Nat} {ts : List T} {w : World} {U : Mk} (h : Sl K (.slice A k c) ts w U) : ts.length = k ∧ k ≤ c ∧ k ≤ 1000000000000 := by
  obtain ⟨h1, h2, _⟩ := h.at
  exact ⟨h1, h2.1, h2.2⟩
theorem Sl.slice {T : Type} {K : EK T} {v : Value} {ts : List T} {w : World} {U : Mk} (h : Sl K v ts w U) : ∃ A k c, v = .slice A k c := by
  obtain ⟨A, c, rfl, _⟩ := h
  exact ⟨_, _, _, rfl⟩

/-! ### Whole elements, unopened -/
theorem spl_whole : ∀ {zs cs : List Value}, zs.length = cs.length → Spl zs 0 cs cs
  | [], [], _ => .nil (Nat.le_refl _)
  | _ :: _, _ :: _, h => .here (spl_whole (Nat.succ.inj h))
  | [], _ :: _, h => by simp at h
  | _ :: _, [], h => by simp at h
theorem nths_whole : ∀ (cs pre : List Value), Nths (pre ++ cs) pre.length cs
  | [], _ => .nil
  | c :: cs, pre => .cons (by rw [nth_eq]; simp) (by have := nths_whole cs (pre ++ [c]); simpa using this)
section
variable {w0 : World} {U0 : Mk} {n : Nat} {E : List (Nat × Value)} {H : List Blk} {RW : List Row} {F : Fact} {a : Act} {w : World} {U : Mk}
variable {P : Program} {K : Act → World → Prop} {Q : Exit → Act → World → Prop}
variable {d : Nat} {ty : Nat} {pos : String} {aft : Array Edge} {gd : Option (Nat × Bool)}
theorem q_eatw (h : Sta w0 U0 n E H RW F a w U) {t : Nat} {x : Operand} {g o k : Nat} {cs : List Value} (hx : ev E x = some (.pointer (some ⟨g, o, none⟩))) (ha : Agg P t k) (he : Eat g o cs w U) (hl : cs.length = k) {dst : Option Tmp} : (execOp a.eval ⟨dst, .load t x, ty, pos, aft, gd⟩).run P w = .ok (.value (.agg cs.toArray)) w :=
  q_eata h hx ha he (Nat.add_zero o).symm (nths_whole cs []) hl
theorem r_eatw (h : Sta w0 U0 n E H RW F a w U) {t : Nat} {x : Operand} {g o k : Nat} {cs : List Value} (hx : ev E x = some (.pointer (some ⟨g, o, none⟩))) (ha : Agg P t k) (he : Eat g o cs w U) (hl : cs.length = k) (hd : Nat.blt d n = true)
    (kk : ∀ a, Sta w0 U0 n ((d, .agg cs.toArray) :: E) H RW F a w U → K a w) : Oper.wp P ⟨some d, .load t x, ty, pos, aft, gd⟩ a w K Q := r_val h (q_eatw h hx ha he hl) hd kk
theorem q_loadw (h : Sta w0 U0 n E H RW F a w U) {t bt : Nat} {x : Operand} {g k : Nat} {cs : List Value} (hx : ev E x = some (.pointer (some ⟨g, 0, none⟩))) (ha : Agg P t k) (hb : ⟨g, bt, cs⟩ ∈ H) (hl : cs.length = k) {dst : Option Tmp} : (execOp a.eval ⟨dst, .load t x, ty, pos, aft, gd⟩).run P w = .ok (.value (.agg cs.toArray)) w :=
  q_loada h hx ha hb (nths_whole cs []) hl
theorem r_loadw (h : Sta w0 U0 n E H RW F a w U) {t bt : Nat} {x : Operand} {g k : Nat} {cs : List Value} (hx : ev E x = some (.pointer (some ⟨g, 0, none⟩))) (ha : Agg P t k) (hb : ⟨g, bt, cs⟩ ∈ H) (hl : cs.length = k) (hd : Nat.blt d n = true)
    (kk : ∀ a, Sta w0 U0 n ((d, .agg cs.toArray) :: E) H RW F a w U → K a w) : Oper.wp P ⟨some d, .load t x, ty, pos, aft, gd⟩ a w K Q := r_val h (q_loadw h hx ha hb hl) hd kk
theorem q_eqb (h : Sta w0 U0 n E H RW F a w U) {t t' : Nat} {x y : Operand} {p q : Bool} (hx : ev E x = some (.bool p)) (hy : ev E y = some (.bool q)) (ht : P.underlying t = some .bool) {dst : Option Tmp} : (execOp a.eval ⟨dst, .binOp .eql t x y t', ty, pos, aft, gd⟩).run P w = .ok (.value (.bool (p == q))) w := by
  have := run_equal_bool (P := P) (w := w) t p q ht
  simp [execOp, h.eval hx, h.eval hy, eqGuard, binOp, this]
theorem r_eqb (h : Sta w0 U0 n E H RW F a w U) {t t' : Nat} {x y : Operand} {p q : Bool} (hx : ev E x = some (.bool p)) (hy : ev E y = some (.bool q)) (ht : P.underlying t = some .bool) (hd : Nat.blt d n = true)
    (kk : ∀ a, Sta w0 U0 n ((d, .bool (p == q)) :: E) H RW F a w U → K a w) : Oper.wp P ⟨some d, .binOp .eql t x y t', ty, pos, aft, gd⟩ a w K Q := r_val h (q_eqb h hx hy ht) hd kk
end
theorem oneT {cs : List Value} {t : TyT} {w : World} {U : Mk} (h : kT.R cs t w U) : cs.all Value.oneCell' = true := by
  obtain ⟨_, _, _, _, _, rfl, _, A, c, rfl, _⟩ := TRep.open_ h; rfl
theorem oneE {cs : List Value} {t : ExT} {w : World} {U : Mk} (h : kE.R cs t w U) : cs.all Value.oneCell' = true := by
  obtain ⟨_, _, _, _, _, _, _, rfl, _, A, c, rfl, _⟩ := ERep.open_ h; rfl
theorem oneC {cs : List Value} {t : CoT} {w : World} {U : Mk} (h : kC.R cs t w U) : cs.all Value.oneCell' = true := by
  obtain ⟨nm, v, x, y, rfl, _, A, c, rfl, _⟩ := h; rfl
theorem oneD {N : Nat} {cs : List Value} {t : DaT} {w : World} {U : Mk} (h : (kDn N).R cs t w U) : cs.all Value.oneCell' = true := by
  obtain ⟨nm, v, u, x, y, rfl, _, ⟨A, c, rfl, _⟩, ⟨A', c', rfl, _⟩, _⟩ := h; rfl
theorem oneR {N : Nat} {cs : List Value} {t : RuT} {w : World} {U : Mk} (h : (kRn N).R cs t w U) : cs.all Value.oneCell' = true := by
  obtain ⟨nm, v, u, bs, x, y, rfl, _, ⟨A, c, rfl, _⟩, ⟨A', c', rfl, _⟩, h5, _⟩ := h
  obtain ⟨_, _, _, _, _, _, _, rfl, _, A, c, rfl, _⟩ := ERep.open_ h5; rfl
end Go.Proofs.YtjnjkbmegfkiiaaGreat
