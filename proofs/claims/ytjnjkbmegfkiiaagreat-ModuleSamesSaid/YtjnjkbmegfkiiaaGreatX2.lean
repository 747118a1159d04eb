/- The small logic's second part: literals, append, calls, guards, results, regions that draw. -/
import Derived.Test.YtjnjkbmegfkiiaaGreatX
namespace Go.Proofs.YtjnjkbmegfkiiaaGreat
open Go.RowKit

section
variable {w0 : World} {U0 : Mk} {n : Nat} {E E' : List (Nat × Value)} {H H' : List Blk} {RW : List Row} {F G : Fact} {a : Act} {w w' : World} {U U' : Mk}
variable {P : Program} {K : Act → World → Prop} {Q : Exit → Act → World → Prop}
variable {d : Nat} {ty : Nat} {pos : String} {aft : Array Edge} {gd : Option (Nat × Bool)}

theorem rti {t : Nat} {i : TypeInfo} (h : P.info? t = some i) (w : World) : (typeInfo t).run P w = .ok i w := by simp [typeInfo, h]
theorem rsz {t : Nat} {i : TypeInfo} (h : P.info? t = some i) (w : World) : (sizeOf t).run P w = .ok (P.cellsOf t) w := by simp [sizeOf, rti h, Program.cellsOf, h]

/-! ### Literals -/
/-- The cells of a struct literal: the zero value, and the parts written over it. -/
inductive Fills (P : Program) (t : Nat) (E : List (Nat × Value)) : List Value → List (Nat × Operand) → List Value → Prop where
  | nil {cs : List Value} : Fills P t E cs [] cs
  | cons {cs cs1 cs2 vs : List Value} {f o : Nat} {x : Operand} {v : Value} {ps : List (Nat × Operand)} (hf : FieldAt P t f o vs.length) (hx : ev E x = some v) (hv : v.cells = vs.toArray) (hs : Spl cs o vs cs1) (h : Fills P t E cs1 ps cs2) :
      Fills P t E cs ((f, x) :: ps) cs2

theorem fill_step (cs vs : List Value) (o : Nat) (hle : o + vs.length ≤ cs.length) :
    vs.toArray.zipIdx.foldl (fun (c : Array Value) (x : Value × Nat) => c.setIfInBounds (o + x.2) x.1) cs.toArray = (cs.take o ++ vs ++ cs.drop (o + vs.length)).toArray := by
  have key : ∀ (us : List Value) (k : Nat) (c : List Value), o + k + us.length ≤ c.length →
      (us.zipIdx k).foldl (fun (c : Array Value) (x : Value × Nat) => c.setIfInBounds (o + x.2) x.1) c.toArray = (c.take (o + k) ++ us ++ c.drop (o + k + us.length)).toArray := by
    intro us
    induction us with
    | nil => intro k c _; simp
    | cons u us ih =>
      intro k c hc
      simp only [List.length_cons] at hc
      simp only [List.zipIdx_cons, List.foldl_cons, List.setIfInBounds_toArray]
      rw [ih (k + 1) (c.set (o + k) u) (by simp; omega)]
      congr 1
      apply List.ext_getElem?
      intro j
      simp only [List.getElem?_append, List.length_take, List.length_set, List.getElem?_take, List.getElem?_drop, List.getElem?_set, List.length_append, List.length_cons]
      rcases Nat.lt_trichotomy j (o + k) with hj | hj | hj
      · simp only [show j < o + (k + 1) by omega, show j < o + k by omega, show ¬ o + k = j by omega, if_true, if_false, show j < min (o + (k + 1)) c.length by omega, show j < min (o + k) c.length by omega, show j < min (o + (k + 1)) c.length + us.length by omega, show j < min (o + k) c.length + (us.length + 1) by omega]
      · subst hj
        simp only [show o + k < o + (k + 1) by omega, show ¬ o + k < o + k by omega, if_true, if_false, show o + k < min (o + (k + 1)) c.length by omega, show ¬ o + k < min (o + k) c.length by omega, show o + k < min (o + (k + 1)) c.length + us.length by omega, show o + k < min (o + k) c.length + (us.length + 1) by omega, show o + k < c.length by omega, show o + k - min (o + k) c.length = 0 by omega, List.getElem?_cons_zero]
      · simp only [show ¬ o + k = j by omega, if_false, show ¬ j < min (o + (k + 1)) c.length by omega, show ¬ j < min (o + k) c.length by omega]
        have e1 : j - min (o + k) c.length = (j - min (o + (k + 1)) c.length) + 1 := by omega
        rw [e1, List.getElem?_cons_succ]
        by_cases hj2 : j < min (o + (k + 1)) c.length + us.length
        · rw [if_pos hj2, if_pos (by omega)]
        · rw [if_neg hj2, if_neg (by omega)]
          congr 1
          rw [if_neg (by omega)]
          congr 1
          omega
  have := key vs 0 cs (by simpa using hle)
  simpa using this

theorem fills_run (h : Sta w0 U0 n E H RW F a w U) {t : Nat} {pl : Array (Nat × Nat)}
    (hpl : ∀ f o k, FieldAt P t f o k → pl[f]? = some (o, k)) {cs cs2 : List Value} {ps : List (Nat × Operand)} (hf : Fills P t E cs ps cs2) :
    Instr.fill (pl[·]?) cs.toArray (ps.map fun p => (p.1, a.eval p.2)) = some cs2.toArray := by
  induction hf with
  | nil => rfl
  | @cons cs cs1 cs2 vs f o x v ps hf hx hv hs h2 ih =>
    obtain ⟨he, hle⟩ := hs.eq
    have h1 := hpl f o vs.length hf
    have h3 := fill_step cs vs o hle
    simp only [List.map_cons, Instr.fill, h1, h.eval hx, hv]
    rw [if_neg (by simp; omega), h3, ← he]
    exact ih

theorem run_places (w : World) (fs : Array Field) (hok : ∀ fd ∈ fs, ∃ i, P.info? fd.type = some i) :
    (fs.mapM fun (f : Field) => (do pure (f.offset, ← sizeOf f.type) : Sem (Nat × Nat))).run P w = .ok (fs.map fun f => (f.offset, P.cellsOf f.type)) w := by
  rw [Array.mapM_eq_mapM_toList]
  have key : ∀ l : List Field, (∀ fd ∈ l, ∃ i, P.info? fd.type = some i) → (l.mapM fun (f : Field) => (do pure (f.offset, ← sizeOf f.type) : Sem (Nat × Nat))).run P w = .ok (l.map fun f => (f.offset, P.cellsOf f.type)) w := by
    intro l
    induction l with
    | nil => intro _; simp
    | cons x l ih =>
      intro hl
      obtain ⟨i, hi⟩ := hl x (by simp)
      simp only [List.mapM_cons, Sem.run_bind, rsz hi w, Result.andThen_ok, Sem.run_pure, ih (fun fd hfd => hl fd (by simp [hfd])), List.map_cons]
  have := key fs.toList (fun fd hfd => hok fd (by simpa using hfd))
  simp only [Sem.run_map, this, Result.andThen_ok]
  congr 1
  apply Array.ext'
  simp

/-- A struct type all of whose fields have a size. -/
def StructOk (P : Program) (t : Nat) : Prop := ∃ fs, P.underlying t = some (.struct fs) ∧ fs.all (fun fd => (P.info? fd.type).isSome) = true
theorem q_build (h : Sta w0 U0 n E H RW F a w U) {t : Nat} {ps : List (Nat × Operand)} {zs cs : List Value} (hso : StructOk P t) (hz : ZeroC P t zs) (hf : Fills P t E zs ps cs) {dst : Option Tmp} : (execOp a.eval ⟨dst, .build t ps.toArray, ty, pos, aft, gd⟩).run P w = .ok (.value (.agg cs.toArray)) w := by
  obtain ⟨fs, hu, hall⟩ := hso
  obtain ⟨z, hz1, hz2⟩ := Option.map_eq_some_iff.1 hz
  obtain ⟨i, hi, hzi⟩ := Option.bind_eq_some_iff.1 hz1
  have hok : ∀ fd ∈ fs, ∃ i, P.info? fd.type = some i := fun fd hfd => Option.isSome_iff_exists.1 (by have := Array.all_eq_true'.1 hall fd hfd; exact this)
  have hfill := fills_run h (pl := fs.map fun f => (f.offset, P.cellsOf f.type)) (fun f o k ⟨fs', fd, h1, h2, h3, h4, h5⟩ => by
    rw [hu] at h1
    simp only [Option.some.injEq, TypeDesc.struct.injEq] at h1
    subst h1
    obtain ⟨j, hj, hk⟩ := Option.map_eq_some_iff.1 h4
    simp [h2, h3, Program.cellsOf, hj, hk]) hf
  have hmap : (ps.toArray.map fun (x : Nat × Operand) => (x.1, a.eval x.2)).toList = ps.map fun p => (p.1, a.eval p.2) := by simp
  have hpl := run_places (P := P) w fs hok
  simp only [execOp, Instr.build, Sem.run_bind, zeroValue, rti hi w, Result.andThen_ok, hzi, Sem.run_pure, run_underlying hu, hpl, hz2]
  simp only [hmap]
  rw [hfill]
  rfl

theorem r_build (h : Sta w0 U0 n E H RW F a w U) {t : Nat} {ps : List (Nat × Operand)} {zs cs : List Value} (hso : StructOk P t) (hz : ZeroC P t zs) (hf : Fills P t E zs ps cs) (hd : Nat.blt d n = true)
    (kk : ∀ a, Sta w0 U0 n ((d, .agg cs.toArray) :: E) H RW F a w U → K a w) : Oper.wp P ⟨some d, .build t ps.toArray, ty, pos, aft, gd⟩ a w K Q :=
  r_val h (q_build h hso hz hf) hd kk
/-- A slice literal of one element. -/
theorem r_slice1 (h : Sta w0 U0 n E H RW F a w U) {t e k : Nat} {x : Operand} {v : Value} {vs zs : List Value} (ht : P.underlying t = some (.slice e)) (hs : Sized P e k) (hz : ZeroC P e zs) (hzl : zs.length = k) (hp : 0 < k) (hb : k ≤ 16777216) (hx : ev E x = some v) (hv : v.cells = vs.toArray) (hlen : vs.length = k) (hd : Nat.blt d n = true)
    (kk : ∀ a w' g, Sta w0 U0 n ((d, .slice (some ⟨g, 0, none⟩) 1 1) :: E) (⟨g, e, vs⟩ :: H) RW F a w' U → K a w') : Oper.wp P ⟨some d, .buildSlice t 1 [(0, x)].toArray, ty, pos, aft, gd⟩ a w K Q := by
  subst hlen
  have h0 := h.alloc vs e d hd
  have hst : Sta w0 U0 n ((d, .slice (some ⟨w.heap.size, 0, none⟩) 1 1) :: E) (⟨w.heap.size, e, vs⟩ :: H) RW F (a.put (some d) (.slice (some ⟨w.heap.size, 0, none⟩) 1 1)) (w.alloc (.cells vs.toArray e)) U :=
    { h0 with size := by simp [Act.put, h.size], defs := h.defs, env := (h.put hd _).env }
  refine wp_val (v := .slice (some ⟨w.heap.size, 0, none⟩) 1 1) (w' := w.alloc (.cells vs.toArray e)) ?_ (kk _ _ _ hst)
  obtain ⟨i, hi, hk⟩ := Option.map_eq_some_iff.1 hs
  obtain ⟨z, hz1, hz2⟩ := Option.map_eq_some_iff.1 hz
  obtain ⟨i', hi', hzi⟩ := Option.bind_eq_some_iff.1 hz1
  have : i' = i := by rw [hi] at hi'; exact (Option.some.inj hi').symm
  subst this
  have hcells : P.cellsOf e = vs.length := by simp [Program.cellsOf, hi, hk]
  have hzs : z.cells.size = vs.length := by rw [hz2]; simpa using hzl
  have hrow : ((Array.range (1 * vs.length)).map fun x => z.cells[x % z.cells.size]!) = zs.toArray := by
    rw [hzs, hz2]
    apply Array.ext
    · simp [hzl]
    · intro j h1 h2
      simp only [List.size_toArray] at h2
      have h3 : j < vs.length := by omega
      simp [Nat.mod_eq_of_lt h3, h2]
  have hfill := fill_step zs vs 0 (by omega)
  have hfin : zs.take 0 ++ vs ++ zs.drop (0 + vs.length) = vs := by simp [← hzl]
  rw [hfin] at hfill
  have hgo : Instr.fill (fun i => some (i * vs.length, vs.length)) zs.toArray [(0, v)] = some vs.toArray := by
    have h1 : ¬ (vs.length ≠ vs.length ∨ 0 + vs.length > zs.length) := by omega
    simp only [Instr.fill, hv, Nat.zero_mul, List.size_toArray]
    rw [if_neg (by simp; omega)]
    exact congrArg some hfill
  have hpne : ¬ (1 * vs.length = 0) := by omega
  have hble : ¬ (1 * vs.length > 2 ^ 24) := by omega
  simp only [execOp, Instr.buildSlice, Sem.run_bind, run_underlying ht, Result.andThen_ok, rsz hi, hcells, if_neg hble, if_neg hpne, Sem.run_pure, zeroValue, rti hi, hzi, hrow]
  have hparts : ([(0, x)].toArray.map fun (x : Nat × Operand) => (x.1, a.eval x.2)).toList = [(0, v)] := by simp [h.eval hx]
  simp only [hparts, hgo, newRow, Sem.run_bind, Sem.run_pure]
  rfl

/-! ### Slots that part -/
theorem Sta.know (h : Sta w0 U0 n E H RW F a w U) {t : Nat} {v : Value} (ht : look E t = some v) {v' : Value} (he : v = v') : Sta w0 U0 n ((t, v') :: E) H RW F a w U :=
  have key : ∀ x u, look ((t, v') :: E) x = some u → a.tmps[x]? = some u := by
    intro x u hx
    subst he
    simp only [look] at hx
    cases hb : Nat.beq t x with
    | true =>
      rw [hb] at hx
      have : t = x := Nat.eq_of_beq_eq_true hb
      subst this
      simp only [Option.some.injEq] at hx
      subst hx
      exact h.env _ _ ht
    | false => rw [hb] at hx; exact h.env _ _ hx
  { h with env := key }
theorem Sta.split (h : Sta w0 U0 n E H RW F a w U) {t : Nat} {b : Bool} (ht : look E t = some (.bool b)) {X : Prop} (k1 : b = true → Sta w0 U0 n ((t, .bool true) :: E) H RW F a w U → X) (k2 : b = false → Sta w0 U0 n ((t, .bool false) :: E) H RW F a w U → X) : X := by
  cases b with
  | true => exact k1 rfl (h.know ht rfl)
  | false => exact k2 rfl (h.know ht rfl)
theorem x_cond (h : Sta w0 U0 n E H RW F a w U) {c : Operand} {b : Bool} {x y : Code} (hc : ev E c = some (.bool b)) (k1 : b = true → x.wp P Q a w) (k2 : b = false → y.wp P Q a w) : (Code.cond c x y).wp P Q a w :=
  wp_cond_split (h.eval hc) k1 k2
theorem x_cond_t (h : Sta w0 U0 n E H RW F a w U) {c : Operand} {x y : Code} (hc : ev E c = some (.bool true)) (k1 : x.wp P Q a w) : (Code.cond c x y).wp P Q a w := wp_cond_true (h.eval hc) k1
theorem x_cond_f (h : Sta w0 U0 n E H RW F a w U) {c : Operand} {x y : Code} (hc : ev E c = some (.bool false)) (k1 : y.wp P Q a w) : (Code.cond c x y).wp P Q a w := wp_cond_false (h.eval hc) k1

/-- What is known of some slots, and no more. -/
inductive Keep (E : List (Nat × Value)) : List Nat → List (Nat × Value) → Prop where
  | nil : Keep E [] []
  | cons {d : Nat} {v : Value} {ds : List Nat} {E' : List (Nat × Value)} (h : look E d = some v) (t : Keep E ds E') : Keep E (d :: ds) ((d, v) :: E')
theorem Keep.sub {E : List (Nat × Value)} {ds : List Nat} {E' : List (Nat × Value)} (h : Keep E ds E') : Sub E' E := by
  induction h with
  | nil => trivial
  | cons h t ih => exact ⟨h, ih⟩
theorem Sta.keep (h : Sta w0 U0 n E H RW F a w U) {ds : List Nat} (hk : Keep E ds E') : Sta w0 U0 n E' H RW F a w U := h.less hk.sub

/-! ### Lists of operations -/
variable {ops : Array Oper} {rest : List Oper} {o : Oper}
theorem l_op (hg : o.guard = none) (h : o.wp P a w (wpList P ops Q rest) Q) : wpList P ops Q (o :: rest) a w := by
  unfold wpList
  rw [if_pos (by simp [Region.wanted, hg])]
  exact .inl h
theorem Sta.yield (h : Sta w0 U0 n E H RW F a w U) {j t : Nat} {b : Bool} (hj : (ops[j]?).bind (·.dst) = some t) (ht : look E t = some (.bool b)) : yielded ops a.tmps j = some b := by
  have := h.env t _ ht
  simp [yielded, hj, this]
theorem l_on (h : Sta w0 U0 n E H RW F a w U) {j t : Nat} {b : Bool} (hg : o.guard = some (j, b)) (hj : (ops[j]?).bind (·.dst) = some t) (ht : look E t = some (.bool b)) (k : o.wp P a w (wpList P ops Q rest) Q) : wpList P ops Q (o :: rest) a w := by
  unfold wpList
  rw [if_pos (by simp [Region.wanted, hg, h.yield hj ht])]
  exact .inl k
theorem l_off (h : Sta w0 U0 n E H RW F a w U) {j t d : Nat} {b b' : Bool} (hg : o.guard = some (j, b)) (hj : (ops[j]?).bind (·.dst) = some t) (ht : look E t = some (.bool b')) (hne : b' ≠ b) (hod : o.dst = some d) (hd : Nat.blt d n = true)
    (k : ∀ a, Sta w0 U0 n ((d, undef) :: E) H RW F a w U → wpList P ops Q rest a w) : wpList P ops Q (o :: rest) a w := by
  unfold wpList
  rw [if_neg (by simp [Region.wanted, hg, h.yield hj ht]; exact hne), hod]
  exact k _ (h.put hd _)

/-! ### Calls -/
/-- What a call comes to: it returns, all that was there is as it was, and R. -/
def CallsS (P : Program) (f : Nat) (args : List Value) (w : World) (U : Mk) (R : Value → World → Mk → Prop) : Prop :=
  UB w U → Calls P f args.toArray w fun e w' => ∃ v U', e = .returned v ∧ Since w U w' U' ∧ R v w' U'
theorem CallsS.mono {f : Nat} {args : List Value} {R R' : Value → World → Mk → Prop} (h : CallsS P f args w U R) (hr : ∀ v w' U', R v w' U' → R' v w' U') : CallsS P f args w U R' :=
  fun hu => (h hu).mono fun _ _ ⟨v, U', he, hs, hR⟩ => ⟨v, U', he, hs, hr _ _ _ hR⟩
def Enters (P : Program) (f : Nat) : Prop := (P.funcs[f]?).any (fun fn => !(fn.name == "runtime.NumGoroutine") && !fn.body.isNone) = true
theorem r_call (h : Sta w0 U0 n E H RW F a w U) {f : Nat} {xs : List Operand} {vs : List Value} {tys : Array Nat} {R : Value → World → Mk → Prop} (hx : evs E xs = some vs) (he : Enters P f) (hc : CallsS P f vs w U R) (hd : Nat.blt d n = true)
    (kk : ∀ a v w' U', R v w' U' → Sta w0 U0 n ((d, v) :: E) H RW F a w' U' → K a w') : Oper.wp P ⟨some d, .call ⟨.value (.func f), xs.toArray, tys⟩, ty, pos, aft, gd⟩ a w K Q := by
  have harg : (xs.toArray.map a.eval) = vs.toArray := by rw [List.map_toArray, h.evals hx]
  obtain ⟨fn, hfn, hb⟩ : ∃ fn, P.funcs[f]? = some fn ∧ (!(fn.name == "runtime.NumGoroutine") && !fn.body.isNone) = true := by
    unfold Enters at he
    cases hf : P.funcs[f]? with
    | none => simp [hf] at he
    | some fn => exact ⟨fn, rfl, by simpa [hf] using he⟩
  simp only [Bool.and_eq_true, Bool.not_eq_true'] at hb
  unfold Oper.wp
  have hrun : (execOp a.eval ⟨some d, .call ⟨.value (.func f), xs.toArray, tys⟩, ty, pos, aft, gd⟩).run P w = .ok (.enter f vs.toArray) w := by
    have h1 : ¬ fn.name = "runtime.NumGoroutine" := by simpa using hb.1
    have h2 : ¬ fn.body = none := fun e => by simp [e] at hb
    simp [execOp, resolve, Deferred.ofValue, Act.eval, invoke, callFunc, hfn, h1, h2, ← harg]
  rw [hrun]
  show Calls P f vs.toArray w _
  refine (hc h.ub).mono ?_
  rintro e w' ⟨v, U', rfl, hs, hR⟩
  exact kk _ _ _ _ hR ((h.grow hs).put hd v)
end
end Go.Proofs.YtjnjkbmegfkiiaaGreat
