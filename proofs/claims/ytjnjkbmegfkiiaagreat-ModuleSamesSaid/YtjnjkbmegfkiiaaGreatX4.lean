/- The small logic's fourth part: rows, results, entries, regions that draw their order. -/
import Derived.Test.YtjnjkbmegfkiiaaGreatX3
namespace Go.Proofs.YtjnjkbmegfkiiaaGreat
open Go.RowKit

section
variable {w0 : World} {U0 : Mk} {n : Nat} {E E' : List (Nat × Value)} {H H' : List Blk} {RW RW' : List Row} {F G : Fact} {a : Act} {w w' : World} {U U' : Mk}
variable {P : Program} {K : Act → World → Prop} {Q : Exit → Act → World → Prop}

theorem Sta.row_nil (h : Sta w0 U0 n E H RW F a w U) (e : Nat) {sz : Nat} (hs : 0 < sz) : Sta w0 U0 n E H (⟨.slice none 0 0, e, sz, 0⟩ :: RW) F a w U :=
  { h with
    row := fun r hr => by
      rcases List.mem_cons.1 hr with rfl | hr
      · exact ⟨hs, .inl ⟨rfl, rfl⟩⟩
      · exact h.row r hr
    rapt := List.pairwise_cons.2 ⟨fun r _ => ⟨.inl rfl, by
      by_cases hb : r.v.ownBlock = none
      · exact .inl hb
      · exact .inr (by simpa [Value.ownBlock] using hb)⟩, h.rapt⟩ }
theorem Sta.row_swap {r s : Row} (h : Sta w0 U0 n E H (r :: s :: RW) F a w U) : Sta w0 U0 n E H (s :: r :: RW) F a w U :=
  { h with
    row := fun x hx => h.row x (by simp only [List.mem_cons] at hx ⊢; rcases hx with h | h | h <;> simp [h])
    rapt := by
      have h1 := List.pairwise_cons.1 h.rapt
      have h2 := List.pairwise_cons.1 h1.2
      refine List.pairwise_cons.2 ⟨fun x hx => ?_, List.pairwise_cons.2 ⟨fun x hx => h1.1 x (.tail _ hx), h2.2⟩⟩
      rcases List.mem_cons.1 hx with rfl | hx
      · exact ⟨(h1.1 s (.head _)).2, (h1.1 s (.head _)).1⟩
      · exact h2.1 x hx }
theorem Sta.row_drop (h : Sta w0 U0 n E H RW F a w U) (hs : RW'.Sublist RW) : Sta w0 U0 n E H RW' F a w U :=
  { h with row := fun r hr => h.row r (hs.subset hr), rapt := h.rapt.sublist hs }

/-- A block of its own is given away: its cells are settled from now on. -/
theorem Sta.settle (h : Sta w0 U0 n E H RW F a w U) {g : Nat} {t : Nat} {cs : List Value} (hb : ⟨g, t, cs⟩ ∈ H) (hs : H'.Sublist H) (hn : ∀ b ∈ H', b.g ≠ g) :
    ∃ U', Ext w U w U' ∧ (∀ m c, Cont (.slice (some ⟨g, 0, none⟩) m c) cs w U') ∧ Sta w0 U0 n E H' RW F a w U' := by
  obtain ⟨h1, h2, h3⟩ := h.blk _ hb
  simp only at h1 h2 h3
  have hg := h.blk_lt hb
  simp only at hg
  let U' : Mk := fun b => if b = g then cs.length else U b
  have hU'g : U' g = cs.length := by simp [U']
  have hU'o : ∀ b, b ≠ g → U' b = U b := fun b hb => by simp [U', hb]
  have hext : Ext w U w U' := by
    refine ⟨Nat.le_refl _, fun b => ?_, fun b j u _ hu => hu⟩
    by_cases hb : b = g
    · subst hb; rw [h2]; exact Nat.zero_le _
    · rw [hU'o b hb]; exact Nat.le_refl _
  refine ⟨U', hext, fun m c => .inr ⟨g, 0, m, c, rfl, fun j u hu => ⟨?_, ?_⟩⟩, ?_⟩
  · have hj : j < cs.length := (List.getElem?_eq_some_iff.1 hu).1
    rw [hU'g]; omega
  · rw [Nat.zero_add]; exact h.cell hb hu
  · refine { h with since := ⟨h.since.below, fun b hb => ?_, fun b hb => ?_⟩, blk := fun b hb => ?_, apt := h.apt.sublist hs, row := fun r hr => ?_, fact := h.mono _ _ _ _ hext h.fact }
    · rw [hU'o b (by omega)]; exact h.since.old b hb
    · rw [hU'o b (by omega)]; exact h.ub b hb
    · obtain ⟨j1, j2, j3⟩ := h.blk b (hs.subset hb)
      exact ⟨j1, by rw [hU'o _ (hn b hb)]; exact j2, j3⟩
    · refine Row.ok_same (h.row r hr) fun g2 hg2 => ⟨rfl, hU'o _ fun e => ?_⟩
      have := (Row.ok_lt (h.row r hr) hg2).2.2
      subst e
      omega

/-! ### Results -/
inductive Res (P : Program) (E : List (Nat × Value)) (H : List Blk) : List ResultVar → List Value → Prop where
  | nil : Res P E H [] []
  | tmp {t : Nat} {v : Value} {rs : List ResultVar} {vs : List Value} (h : look E t = some v) (hr : Res P E H rs vs) : Res P E H (.tmp t :: rs) (v :: vs)
  | agg {p g k : Nat} {ty bt : Nat} {cs : List Value} {rs : List ResultVar} {vs : List Value} (h : look E p = some (.pointer (some ⟨g, 0, none⟩))) (ha : Agg P ty k) (hb : ⟨g, bt, cs⟩ ∈ H) (hl : cs.length = k) (hr : Res P E H rs vs) : Res P E H (.cell p ty :: rs) (.agg cs.toArray :: vs)
  | sca {p g : Nat} {ty bt : Nat} {cs : List Value} {v : Value} {rs : List ResultVar} {vs : List Value} (h : look E p = some (.pointer (some ⟨g, 0, none⟩))) (ha : Sca P ty) (hb : ⟨g, bt, cs⟩ ∈ H) (hl : nth cs 0 = some v) (hr : Res P E H rs vs) : Res P E H (.cell p ty :: rs) (v :: vs)
theorem Res.run (h : Sta w0 U0 n E H RW F a w U) {rs : List ResultVar} {vs : List Value} (hr : Res P E H rs vs) (f : ResultVar → Sem Value) (hf : ∀ u, f (.tmp u) = pure (a.tmps.getD u undef)) (hc : ∀ x t, f (.cell x t) = (do loadVar t (← asAddr (a.tmps.getD x undef)))) :
    (rs.mapM f).run P w = .ok vs w := by
  induction hr with
  | nil => simp
  | tmp ht _ ih =>
    have := h.env _ _ ht
    simp [List.mapM_cons, hf, ih, Array.getD_eq_getD_getElem?, this]
  | agg hp ha hb hl _ ih =>
    have h1 := h.env _ _ hp
    have h2 := run_loadVar_agg (P := P) (w := w) (o := 0) ha hl fun j u hj => h.cell hb (by rw [Nat.zero_add]; exact hj)
    simp [List.mapM_cons, hc, ih, Array.getD_eq_getD_getElem?, h1, asAddr, h2]
  | sca hp ha hb hl _ ih =>
    have h1 := h.env _ _ hp
    have h2 := run_loadVar_sca (P := P) (w := w) (o := 0) ha (h.cell hb (by rw [← nth_eq]; exact hl))
    simp [List.mapM_cons, hc, ih, Array.getD_eq_getD_getElem?, h1, asAddr, h2]
/-- What is handed back. -/
def packed : List Value → Value
  | [v] => v
  | vs => .tuple vs.toArray
theorem results_run (h : Sta w0 U0 n E H RW F a w U) {fn : Func} {rs : List ResultVar} {vs : List Value} (hf : fn.results = rs.toArray) (hr : Res P E H rs vs) : (results fn a.tmps).run P w = .ok (packed vs) w := by
  unfold results
  rw [hf, List.mapM_toArray]
  simp only [Sem.run_bind, Sem.run_map]
  rw [Res.run h hr]
  · match vs with
    | [] => simp [packed]
    | [v] => simp [packed]
    | _ :: _ :: _ => simp [packed]
  · intro u; rfl
  · intro x t; rfl

def Fin (w : World) (U : Mk) (R : Value → World → Mk → Prop) : Ending → World → Prop := fun e w' => ∃ v U', e = .returned v ∧ Since w U w' U' ∧ R v w' U'
theorem x_ret (h : Sta w0 U0 n E H RW F a w U) {fn : Func} {rs : List ResultVar} {vs : List Value} {R : Value → World → Mk → Prop} (hf : fn.results = rs.toArray) (hr : Res P E H rs vs) (k : R (packed vs) w U) : bodyPost P fn (Fin w0 U0 R) .ret a w :=
  bodyPost_ret (results_run h hf hr) h.defs ⟨_, U, rfl, h.since, k⟩
theorem x_end (h : Sta w0 U0 n E H RW F a w U) {fn : Func} {rs : List ResultVar} {vs : List Value} {R : Value → World → Mk → Prop} (hf : fn.results = rs.toArray) (hr : Res P E H rs vs) (k : R (packed vs) w U) : bodyPost P fn (Fin w0 U0 R) .normal a w :=
  bodyPost_end (results_run h hf hr) h.defs ⟨_, U, rfl, h.since, k⟩

/-! ### Entries -/
inductive Args (args : List Value) : List (Nat × Value) → Prop where
  | nil : Args args []
  | cons {d : Nat} {v : Value} {E : List (Nat × Value)} (h : nth args d = some v) (t : Args args E) : Args args ((d, v) :: E)
theorem Args.get {args : List Value} {E : List (Nat × Value)} (h : Args args E) : ∀ d v, look E d = some v → args[d]? = some v := by
  induction h with
  | nil => intro d v hd; simp [look] at hd
  | @cons d v E h t ih =>
    intro x u hx
    simp only [look] at hx
    cases hb : Nat.beq d x with
    | true =>
      rw [hb] at hx
      have : d = x := Nat.eq_of_beq_eq_true hb
      subst this
      simp only [Option.some.injEq] at hx
      subst hx
      rw [← nth_eq]; exact h
    | false => rw [hb] at hx; exact ih _ _ hx
theorem x_enter {f : Nat} {fn : Func} {c : Code} {args : List Value} {R : Value → World → Mk → Prop} (hf : P.funcs[f]? = some fn) (hb : fn.body = some c) (hn : fn.ntmps = n) (hl : args.length ≤ n) (hE : Args args E) (hm : Mono F) (hF : F w U)
    (k : ∀ a, Sta w U n E [] [] F a w U → c.wp P (bodyPost P fn (Fin w U R)) a w) : CallsS P f args w U R := by
  intro hu
  refine calls_of_wp hf hb (k _ ?_)
  refine ⟨by simp [hn]; omega, rfl, fun d v hd => ?_, Since.refl hu, fun _ h => by simp at h, List.Pairwise.nil, fun _ h => by simp at h, List.Pairwise.nil, hm, hF⟩
  have := hE.get d v hd
  have hlt : d < args.length := (List.getElem?_eq_some_iff.1 this).1
  simp only
  rw [Array.getElem?_append_left (by simpa using hlt)]
  simpa using this

/-! ### Regions that draw their order -/
variable {ops : Array Oper}
theorem Sta.draw (h : Sta w0 U0 n E H RW F a w U) : Sta w0 U0 n E H RW F a { w with drawn := w.drawn + 1 } U := h.grow (Since.draw h.ub 1)
theorem x_draw {id : Nat} {l : List Oper} (hm : P.follows .mixedOrders = true) (h : Sta w0 U0 n E H RW F a w U)
    (k : ∀ w, Sta w0 U0 n E H RW F a w U → wpAny P .any l.toArray Q l.length (List.replicate l.length false).toArray a w) : (Code.region id l.toArray true).wp P Q a w := by
  refine wp_region_any hm ?_
  have := k _ h.draw
  simpa using this
/-- One that may come next. -/
theorem any_op {i : Nat} {o : Oper} (ho : ops[i]? = some o) (hg : o.guard = none) (h : o.wp P a w K Q) : wpOp P ops Q i K a w := by
  unfold wpOp
  rw [ho]
  simp only
  rw [if_pos (by simp [Region.wanted, hg])]
  exact .inl h
theorem any1 {i fuel : Nat} {ls : List Bool} (hr : Region.ready .any ops ls.toArray = [i]) (h : wpOp P ops Q i (wpAny P .any ops Q fuel (ls.set i true).toArray) a w) : wpAny P .any ops Q (fuel + 1) ls.toArray a w :=
  wpAny_all hr (by simp) fun j hj => by simp at hj; subst hj; simpa using h
theorem any2 {i j fuel : Nat} {ls : List Bool} (hr : Region.ready .any ops ls.toArray = [i, j]) (h1 : wpOp P ops Q i (wpAny P .any ops Q fuel (ls.set i true).toArray) a w) (h2 : wpOp P ops Q j (wpAny P .any ops Q fuel (ls.set j true).toArray) a w) : wpAny P .any ops Q (fuel + 1) ls.toArray a w :=
  wpAny_all hr (by simp) fun x hx => by
    simp at hx
    rcases hx with rfl | rfl
    · simpa using h1
    · simpa using h2
theorem any3 {i j k fuel : Nat} {ls : List Bool} (hr : Region.ready .any ops ls.toArray = [i, j, k]) (h1 : wpOp P ops Q i (wpAny P .any ops Q fuel (ls.set i true).toArray) a w) (h2 : wpOp P ops Q j (wpAny P .any ops Q fuel (ls.set j true).toArray) a w) (h3 : wpOp P ops Q k (wpAny P .any ops Q fuel (ls.set k true).toArray) a w) : wpAny P .any ops Q (fuel + 1) ls.toArray a w :=
  wpAny_all hr (by simp) fun x hx => by
    simp at hx
    rcases hx with rfl | rfl | rfl
    · simpa using h1
    · simpa using h2
    · simpa using h3
theorem any0 {ls : List Bool} (hr : Region.ready .any ops ls.toArray = []) (h : Q .normal a w) : wpAny P .any ops Q 0 ls.toArray a w := wpAny_done hr h 0
end
end Go.Proofs.YtjnjkbmegfkiiaaGreat
