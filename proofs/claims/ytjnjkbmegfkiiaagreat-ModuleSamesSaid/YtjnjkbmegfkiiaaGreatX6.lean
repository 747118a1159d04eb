/- The small logic's sixth part: leaving code, rows out of literals, tokens. -/
import Derived.Test.YtjnjkbmegfkiiaaGreatX5
import Derived.OrdersHeld
namespace Go.Proofs.YtjnjkbmegfkiiaaGreat
open Go.RowKit
section
variable {w0 : World} {U0 : Mk} {n : Nat} {E E' : List (Nat × Value)} {H H' : List Blk} {RW RW' : List Row} {F G : Fact} {a : Act} {w w' : World} {U U' : Mk}
variable {P : Program} {K : Act → World → Prop} {Q Q' : Exit → Act → World → Prop}
theorem then_n {y : Code} (h : y.wp P Q a w) : Exit.then (y.wp P Q) Q' .normal a w := h
theorem then_r (h : Q .ret a w) : Exit.then K Q .ret a w := h
theorem then_x {i : Nat} (h : Q (.exit i) a w) : Exit.then K Q (.exit i) a w := h
theorem inb_n {i : Nat} (h : Q .normal a w) : Exit.inBlock i Q .normal a w := h
theorem inb_r {i : Nat} (h : Q .ret a w) : Exit.inBlock i Q .ret a w := h
theorem inb_hit {i : Nat} (h : Q .normal a w) : Exit.inBlock i Q (.exit i) a w := by simpa [Exit.inBlock] using h
theorem inb_miss {i j : Nat} (hne : j ≠ i) (h : Q (.exit j) a w) : Exit.inBlock i Q (.exit j) a w := by simpa [Exit.inBlock, hne] using h
theorem then_k (h : K a w) : Exit.then K Q .normal a w := h

/-! ### Regions that draw: what only looks is taken first -/
/-- These blocks hold these cells. -/
def Held (L : List Blk) (w : World) : Prop := ∀ b ∈ L, w.heap[b.g]? = some (.cells b.cs.toArray b.t (0, 0))
variable {ops : Array Oper} {L : List Blk}
theorem Sta.held (h : Sta w0 U0 n E H RW F a w U) (hL : L.Sublist H) : Held L w := fun b hb => (h.blk b (hL.subset hb)).1
theorem Sta.seen (h : Sta w0 U0 n E H RW F a w U) (hL : L.Sublist H) (hw : Held L w') : Sta { w' with heap := #[] } (fun _ => 0) n E L [] (fun _ _ => True) a w' (fun _ => 0) :=
  ⟨h.size, h.defs, h.env, ⟨⟨rfl, rfl, rfl, Nat.zero_le _, fun k hk => absurd hk (Nat.not_lt_zero k)⟩, fun _ _ => rfl, fun _ _ => rfl⟩,
    fun b hb => ⟨hw b hb, rfl, Nat.zero_le _⟩, h.apt.sublist hL, fun _ h => absurd h List.not_mem_nil, List.Pairwise.nil, Mono.true_, trivial⟩
theorem x_drawh {id : Nat} {l : List Oper} (hm : P.follows .mixedOrders = true) (h : Sta w0 U0 n E H RW F a w U) (_hL : L.Sublist H)
    (k : ∀ w, Sta w0 U0 n E H RW F a w U → wpAnyH P .any l.toArray Q (Held L) l.length (List.replicate l.length false).toArray a w) : (Code.region id l.toArray true).wp P Q a w := by
  refine wp_region_held (S := Held L) hm ?_
  have := k _ h.draw
  simpa using this
theorem h_take {i d fuel : Nat} {o : Oper} {v : Value} {ls : List Bool} (h : Sta w0 U0 n E H RW F a w U) (hL : L.Sublist H) (ho : ops[i]? = some o) (hg : o.guard = none) (hod : o.dst = some d) (hd : Nat.blt d n = true)
    (hs : Region.noSelect ops = true) (hf : Region.free .any ops ls.toArray i = true) (hr : (Region.ready .any ops ls.toArray).contains i = true) (hQ : ∀ c a w, Q (.panic c) (a.put (some d) v) w → Q (.panic c) a w)
    (hrun : ∀ w0 U0 w U, Sta w0 U0 n E L [] (fun _ _ => True) a w U → (execOp a.eval o).run P w = .ok (.value v) w)
    (k : ∀ a, Sta w0 U0 n ((d, v) :: E) H RW F a w U → wpAnyH P .any ops Q (Held L) fuel (ls.set i true).toArray a w) : wpAnyH P .any ops Q (Held L) (fuel + 1) ls.toArray a w := by
  refine wpAnyH_take ho hs hf hr (v := v) ?_ (.inl ⟨by simp [Region.wanted, hg], fun w' hw' => hrun _ _ _ _ (h.seen hL hw')⟩) (h.held hL) ?_
  · rw [hod]; exact hQ
  · rw [hod]
    have := k _ (h.put hd v)
    simpa using this
theorem h_one {i fuel : Nat} {o : Oper} {ls : List Bool} (hr : Region.ready .any ops ls.toArray = [i]) (ho : ops[i]? = some o) (hg : o.guard = none)
    (h : o.wp P a w (fun a' w' => Held L w' ∧ wpAnyH P .any ops Q (Held L) fuel (ls.set i true).toArray a' w') Q) : wpAnyH P .any ops Q (Held L) (fuel + 1) ls.toArray a w :=
  wpAnyH_all hr (by simp) fun j hj => by
    simp at hj
    subst hj
    unfold wpOp
    rw [ho]
    simp only
    rw [if_pos (by simp [Region.wanted, hg])]
    exact .inl (by simpa using h)
theorem h_two {i j fuel : Nat} {o o' : Oper} {ls : List Bool} (hr : Region.ready .any ops ls.toArray = [i, j]) (ho : ops[i]? = some o) (hg : o.guard = none) (ho' : ops[j]? = some o') (hg' : o'.guard = none)
    (h : o.wp P a w (fun a' w' => Held L w' ∧ wpAnyH P .any ops Q (Held L) fuel (ls.set i true).toArray a' w') Q)
    (h' : o'.wp P a w (fun a' w' => Held L w' ∧ wpAnyH P .any ops Q (Held L) fuel (ls.set j true).toArray a' w') Q) : wpAnyH P .any ops Q (Held L) (fuel + 1) ls.toArray a w :=
  wpAnyH_all hr (by simp) fun x hx => by
    simp at hx
    rcases hx with rfl | rfl
    · unfold wpOp
      rw [ho]
      simp only
      rw [if_pos (by simp [Region.wanted, hg])]
      exact .inl (by simpa using h)
    · unfold wpOp
      rw [ho']
      simp only
      rw [if_pos (by simp [Region.wanted, hg'])]
      exact .inl (by simpa using h')
theorem h_done {ls : List Bool} (hr : Region.ready .any ops ls.toArray = []) (h : Q .normal a w) : wpAnyH P .any ops Q (Held L) 0 ls.toArray a w := wpAnyH_done hr h 0

/-! ### Slice literals of several elements -/
inductive FillS (E : List (Nat × Value)) (k : Nat) : List Value → List (Nat × Operand) → List Value → Prop where
  | nil {cs : List Value} : FillS E k cs [] cs
  | cons {cs cs1 cs2 vs : List Value} {i o : Nat} {x : Operand} {v : Value} {ps : List (Nat × Operand)} (hx : ev E x = some v) (hv : v.cells = vs.toArray) (hl : vs.length = k) (ho : i * k = o) (hs : Spl cs o vs cs1) (h : FillS E k cs1 ps cs2) :
      FillS E k cs ((i, x) :: ps) cs2
theorem fillS_run (h : Sta w0 U0 n E H RW F a w U) {k : Nat} {cs cs2 : List Value} {ps : List (Nat × Operand)} (hf : FillS E k cs ps cs2) :
    Instr.fill (fun i => some (i * k, k)) cs.toArray (ps.map fun p => (p.1, a.eval p.2)) = some cs2.toArray := by
  induction hf with
  | nil => rfl
  | @cons cs cs1 cs2 vs i o x v ps hx hv hl ho hs h2 ih =>
    obtain ⟨he, hle⟩ := hs.eq
    have h3 := fill_step cs vs o hle
    simp only [List.map_cons, Instr.fill, h.eval hx, hv, ho]
    rw [if_neg (by simp; omega), h3, ← he]
    exact ih
theorem r_sliceN (h : Sta w0 U0 n E H RW F a w U) {d : Nat} {ty : Nat} {pos : String} {aft : Array Edge} {gd : Option (Nat × Bool)} {t e k m : Nat} {ps : List (Nat × Operand)} {z1 zs cs : List Value} (ht : P.underlying t = some (.slice e)) (hs : Sized P e k) (hz : ZeroC P e z1) (hzs : ((List.range (m * k)).map fun j => z1.getD (j % k) undef) = zs)
    (hzl : z1.length = k) (hp : 0 < m * k) (hb : m * k ≤ 16777216) (hf : FillS E k zs ps cs) (hd : Nat.blt d n = true)
    (kk : ∀ a w' g, Sta w0 U0 n ((d, .slice (some ⟨g, 0, none⟩) m m) :: E) (⟨g, e, cs⟩ :: H) RW F a w' U → K a w') : Oper.wp P ⟨some d, .buildSlice t m ps.toArray, ty, pos, aft, gd⟩ a w K Q := by
  have h0 := h.alloc cs e d hd
  have hst : Sta w0 U0 n ((d, .slice (some ⟨w.heap.size, 0, none⟩) m m) :: E) (⟨w.heap.size, e, cs⟩ :: H) RW F (a.put (some d) (.slice (some ⟨w.heap.size, 0, none⟩) m m)) (w.alloc (.cells cs.toArray e)) U :=
    { h0 with size := by simp [Act.put, h.size], defs := h.defs, env := (h.put hd _).env }
  refine wp_val (v := .slice (some ⟨w.heap.size, 0, none⟩) m m) (w' := w.alloc (.cells cs.toArray e)) ?_ (kk _ _ _ hst)
  obtain ⟨i, hi, hk⟩ := Option.map_eq_some_iff.1 hs
  obtain ⟨z, hz1, hz2⟩ := Option.map_eq_some_iff.1 hz
  obtain ⟨i', hi', hzi⟩ := Option.bind_eq_some_iff.1 hz1
  have : i' = i := by rw [hi] at hi'; exact (Option.some.inj hi').symm
  subst this
  have hcells : P.cellsOf e = k := by simp [Program.cellsOf, hi, hk]
  have hkp : 0 < k := Nat.pos_of_mul_pos_left hp
  have hrow : ((Array.range (m * k)).map fun x => z.cells[x % z.cells.size]!) = zs.toArray := by
    rw [hz2, ← hzs]
    apply Array.ext'
    simp only [Array.toList_map, Array.toList_range, List.size_toArray]
    apply List.map_congr_left
    intro j _
    rw [hzl]
    have : j % k < z1.length := by rw [hzl]; exact Nat.mod_lt _ hkp
    simp [this, List.getD_eq_getElem?_getD]
  have hgo := fillS_run h hf
  have hpne : ¬ (m * k = 0) := by omega
  have hble : ¬ (m * k > 2 ^ 24) := by omega
  have hparts : (ps.toArray.map fun (x : Nat × Operand) => (x.1, a.eval x.2)).toList = ps.map fun p => (p.1, a.eval p.2) := by simp
  simp only [execOp, Instr.buildSlice, Sem.run_bind, run_underlying ht, Result.andThen_ok, rsz hi, hcells, if_neg hble, if_neg hpne, Sem.run_pure, zeroValue, rti hi, hzi, hrow]
  simp only [hparts, hgo, newRow, Sem.run_bind, Sem.run_pure]
  rfl

theorem l_undef {ops : Array Oper} {rest : List Oper} {o : Oper} (h : Sta w0 U0 n E H RW F a w U) {j t d : Nat} {b : Bool} (hg : o.guard = some (j, b)) (hj : (ops[j]?).bind (·.dst) = some t) (ht : look E t = some undef) (hod : o.dst = some d) (hd : Nat.blt d n = true)
    (k : ∀ a, Sta w0 U0 n ((d, undef) :: E) H RW F a w U → wpList P ops Q rest a w) : wpList P ops Q (o :: rest) a w := by
  have h1 := h.env t _ ht
  have h2 : yielded ops a.tmps j = none := by simp [yielded, hj, h1, undef]
  unfold wpList
  rw [if_neg (by simp [Region.wanted, hg, h2]), hod]
  exact k _ (h.put hd _)

theorem elemT_of {T e : Nat} {sz bytes : Nat} (h1 : P.underlying T = some (.slice e)) (h2 : ((P.info? e).any fun i => i.zero.any (fun z => z.cells.size == sz) && i.size == sz && i.bytes == bytes) = true) (h3 : 0 < sz) : ElemT P T e sz bytes := by
  refine ⟨h1, ?_⟩
  cases hi : P.info? e with
  | none => simp [hi] at h2
  | some i =>
    simp only [hi, Option.any_some, Bool.and_eq_true, beq_iff_eq] at h2
    obtain ⟨⟨h4, h5⟩, h6⟩ := h2
    cases hz : i.zero with
    | none => simp [hz] at h4
    | some z => exact ⟨i, z, rfl, hz, h5, h6, by simpa [hz] using h4, h3⟩

/-- A block of its own that a literal made becomes a row that is appended to. -/
theorem Sta.enrow (h : Sta w0 U0 n E H RW F a w U) {g m sz : Nat} {e : Nat} {cs : List Value} (hb : ⟨g, e, cs⟩ ∈ H) (hs : H'.Sublist H) (hn : ∀ b ∈ H', b.g ≠ g) (hl : cs.length = m * sz) (hm : 0 < m) (hsz : 0 < sz) (hmm : m ≤ 1000000) :
    ∃ U', Ext w U w U' ∧ Cont (.slice (some ⟨g, 0, none⟩) m m) cs w U' ∧ Sta w0 U0 n E H' (⟨.slice (some ⟨g, 0, none⟩) m m, e, sz, m⟩ :: RW) F a w U' := by
  obtain ⟨h1, h2, h3⟩ := h.blk _ hb
  simp only at h1 h2 h3
  have hg := h.blk_lt hb
  simp only at hg
  let U' : Mk := fun b => if b = g then cs.length else U b
  have hU'g : U' g = cs.length := by simp [U']
  have hU'o : ∀ b, b ≠ g → U' b = U b := fun b hb => by simp [U', hb]
  have hext : Ext w U w U' := by
    refine ⟨Nat.le_refl _, fun b => ?_, fun b j u _ hu => hu⟩
    by_cases hb : b = g
    · subst hb; rw [h2]; exact Nat.zero_le _
    · rw [hU'o b hb]; exact Nat.le_refl _
  refine ⟨U', hext, .inr ⟨g, 0, m, m, rfl, fun j u hu => ⟨?_, ?_⟩⟩, ?_⟩
  · have hj : j < cs.length := (List.getElem?_eq_some_iff.1 hu).1
    rw [hU'g]; omega
  · rw [Nat.zero_add]; exact h.cell hb hu
  · refine { h with since := ⟨h.since.below, fun b hb => ?_, fun b hb => ?_⟩, blk := fun b hb => ?_, apt := h.apt.sublist hs, row := fun r hr => ?_, rapt := ?_, fact := h.mono _ _ _ _ hext h.fact }
    · rw [hU'o b (by omega)]; exact h.since.old b hb
    · rw [hU'o b (by omega)]; exact h.ub b hb
    · obtain ⟨j1, j2, j3⟩ := h.blk b (hs.subset hb)
      exact ⟨j1, by rw [hU'o _ (hn b hb)]; exact j2, j3⟩
    · rcases List.mem_cons.1 hr with rfl | hr
      · exact ⟨hsz, .inr ⟨g, m, cs.toArray, rfl, h3, h1, Nat.le_refl _, by simp only [maxLen]; omega, by simpa using hl, hm, by rw [hU'g]; exact hl⟩⟩
      · refine Row.ok_same (h.row r hr) fun g2 hg2 => ⟨rfl, hU'o _ fun e => ?_⟩
        have := (Row.ok_lt (h.row r hr) hg2).2.2
        subst e
        omega
    · refine List.pairwise_cons.2 ⟨fun r hr => ?_, h.rapt⟩
      have hne : r.v.ownBlock ≠ some g := fun e => by
        have := (Row.ok_lt (h.row r hr) e).2.2
        omega
      constructor
      · right; simp only [Value.ownBlock]; exact fun e => hne e.symm
      · right; simp only [Value.ownBlock]; exact hne
/-- A block taken out. -/
inductive Rem (b : Blk) : List Blk → List Blk → Prop where
  | head {H : List Blk} : Rem b (b :: H) H
  | tail {c : Blk} {H H' : List Blk} (h : Rem b H H') : Rem b (c :: H) (c :: H')
theorem Rem.out {b : Blk} {H H' : List Blk} (h : Rem b H H') (hp : H.Pairwise fun b c => b.g ≠ c.g) : b ∈ H ∧ H'.Sublist H ∧ ∀ c ∈ H', c.g ≠ b.g := by
  induction h with
  | @head H =>
    exact ⟨.head _, .cons _ (List.Sublist.refl _), fun c hc => ((List.pairwise_cons.1 hp).1 c hc).symm⟩
  | @tail c H H' h ih =>
    obtain ⟨hp1, hp2⟩ := List.pairwise_cons.1 hp
    obtain ⟨h1, h2, h3⟩ := ih hp2
    refine ⟨.tail _ h1, .cons_cons _ h2, fun x hx => ?_⟩
    rcases List.mem_cons.1 hx with rfl | hx
    · exact hp1 _ h1
    · exact h3 x hx
section
variable {w0 : World} {U0 : Mk} {n : Nat} {E : List (Nat × Value)} {H H' : List Blk} {RW : List Row} {F : Fact} {a : Act} {w : World} {U : Mk}
theorem Sta.settle_ (h : Sta w0 U0 n E H RW F a w U) {g t : Nat} {cs : List Value} (hr : Rem ⟨g, t, cs⟩ H H') :
    ∃ U', Ext w U w U' ∧ (∀ m c, Cont (.slice (some ⟨g, 0, none⟩) m c) cs w U') ∧ Sta w0 U0 n E H' RW F a w U' :=
  have ⟨h1, h2, h3⟩ := hr.out h.apt
  h.settle h1 h2 h3
theorem Sta.enrow_ (h : Sta w0 U0 n E H RW F a w U) {g m sz e : Nat} {cs : List Value} (hr : Rem ⟨g, e, cs⟩ H H') (hl : cs.length = m * sz) (hm : 0 < m) (hsz : 0 < sz) (hmm : m ≤ 1000000) :
    ∃ U', Ext w U w U' ∧ Cont (.slice (some ⟨g, 0, none⟩) m m) cs w U' ∧ Sta w0 U0 n E H' (⟨.slice (some ⟨g, 0, none⟩) m m, e, sz, m⟩ :: RW) F a w U' :=
  have ⟨h1, h2, h3⟩ := hr.out h.apt
  h.enrow h1 h2 h3 hl hm hsz hmm
end
end

theorem cells_sub {w : World} {U : Mk} {g o off : Nat} {cs vs : List Value} (h : ∀ q u, cs[q]? = some u → o + q < U g ∧ w.cell? ⟨g, o + q, none⟩ = some u) (hn : Nths cs off vs) : ∀ j u, vs[j]? = some u → w.cell? ⟨g, o + off + j, none⟩ = some u := by
  intro j u hu
  rw [Nat.add_assoc]
  exact (h _ _ (hn.get j u hu)).2
theorem Sta.newFact {w0 : World} {U0 : Mk} {n : Nat} {E : List (Nat × Value)} {H : List Blk} {RW : List Row} {F G : Fact} {a : Act} {w : World} {U : Mk} (h : Sta w0 U0 n E H RW F a w U) (hm : Mono G) (hG : G w U) : Sta w0 U0 n E H RW G a w U := { h with mono := hm, fact := hG }
/-- n tokens lie at A. -/
def Toks (A : Option Addr) (n : Nat) : Fact := fun w U => ∀ j, j < n → ∃ (kd m x y : Int) (s : ByteArray), Elt 5 A j [.int .i64 kd, .string s, .int .i64 m, .int .i64 x, .int .i64 y] w U
theorem Toks.mono (A : Option Addr) (n : Nat) : Mono (Toks A n) := fun w U w' U' e h j hj => by
  obtain ⟨kd, m, x, y, s, h⟩ := h j hj
  exact ⟨kd, m, x, y, s, Elt.mono _ _ _ _ _ _ _ _ e h⟩
theorem wrap_in (n : Int) (h1 : -9223372036854775808 ≤ n) (h2 : n ≤ 9223372036854775807) : IntKind.i64.wrap n = n := by
  have hb : (2 : Int) ^ IntKind.i64.bits = 18446744073709551616 := by decide
  have hb' : (2 : Int) ^ (IntKind.i64.bits - 1) = 9223372036854775808 := by decide
  have hs : IntKind.i64.signed = true := rfl
  simp only [IntKind.wrap, hb, hb', hs, Bool.true_and, decide_eq_true_eq]
  split <;> omega
theorem TRep.mono (cs : List Value) (t : TyT) : Mono (fun w U => TRep w U cs t) := kT.mono cs t
theorem ERep.mono (cs : List Value) (t : ExT) : Mono (fun w U => ERep w U cs t) := kE.mono cs t
/-- How much a reader has still to do. -/
def mu (n : Nat) (i : Int) (b : Bool) : Nat := 2 * ((n : Int) - i).toNat + (if b = true then 0 else 1)
theorem mu_lt1 {n : Nat} {i i2 : Int} {b b2 : Bool} (h : i < i2) (h2 : i2 ≤ n) : mu n i2 b2 < mu n i b := by
  unfold mu; split <;> split <;> omega
theorem mu_lt2 {n : Nat} {i i2 : Int} {b b2 : Bool} (h : i ≤ i2) (hb : b = false) (hb2 : b2 = true) : mu n i2 b2 < mu n i b := by
  subst hb; subst hb2; simp [mu]; omega
theorem mu_lt {n : Nat} {i i2 : Int} {b b2 : Bool} (hb : b = false) (h : i ≤ i2) (hn : i2 ≤ n) (h2 : b2 = true ∨ i < i2) : mu n i2 b2 < mu n i b := by
  rcases h2 with h2 | h2
  · exact mu_lt2 h hb h2
  · exact mu_lt1 h2 hn
theorem mu_le {n : Nat} {i i2 : Int} {b b2 : Bool} (h : i ≤ i2) (hb : b = false) : mu n i2 b2 ≤ mu n i b := by
  subst hb; unfold mu; split <;> simp <;> omega
theorem mu_bd (n : Nat) (i : Int) (b : Bool) (h : 0 ≤ i) : mu n i b ≤ 2 * n + 1 := by
  unfold mu; split <;> omega
end Go.Proofs.YtjnjkbmegfkiiaaGreat
