/- The small logic's eleventh part: methods that turn their receiver; scopes with jumps back; nil checks; strings, exactly. -/
import Derived.Test.YtjnjkbmegfkiiaaGreatX10
import Derived.ScopeJumps
import Derived.Laws.Strings
namespace Go.Proofs.YtjnjkbmegfkiiaaGreat
open Go.RowKit
section
variable {w0 : World} {U0 : Mk} {n : Nat} {E : List (Nat × Value)} {H H' HX H1 H2 : List Blk} {RW : List Row} {F : Fact} {a : Act} {w w' : World} {U U' : Mk}
variable {P : Program} {K : Act → World → Prop} {Q : Exit → Act → World → Prop}
variable {d : Nat} {ty : Nat} {pos : String} {aft : Array Edge} {gd : Option (Nat × Bool)}
/-- A state's part that is memory. -/
def Mem (w0 : World) (U0 : Mk) (H : List Blk) (RW : List Row) (F : Fact) (w : World) (U : Mk) : Prop := Sta w0 U0 0 [] H RW F ⟨#[], []⟩ w U
theorem Sta.mem (h : Sta w0 U0 n E H RW F a w U) : Mem w0 U0 H RW F w U := { h with size := rfl, defs := rfl, env := fun d v hd => by simp [look] at hd }
theorem Mem.perm (h : Mem w0 U0 H RW F w U) {H' : List Blk} (p : H.Perm H') : Mem w0 U0 H' RW F w U := Sta.perm h p
/-- A function called in whatever memory that has block b of its caller's own at the front: it returns, the block turned, all else as it was; R: of its result and of the block. -/
def MethC (P : Program) (f : Nat) (args : List Value) (b : Blk) (F : Fact) (R : Value → Blk → Prop) : Prop :=
  ∀ w0 U0 HX RW w U, Mem w0 U0 (b :: HX) RW F w U → Calls P f args.toArray w fun e w' => ∃ v b' U', e = .returned v ∧ Mem w0 U0 (b' :: HX) RW F w' U' ∧ R v b'
theorem MethC.mono {f : Nat} {args : List Value} {b : Blk} {R R' : Value → Blk → Prop} (h : MethC P f args b F R) (hr : ∀ v b, R v b → R' v b) : MethC P f args b F R' :=
  fun w0 U0 HX RW w U hm => (h w0 U0 HX RW w U hm).mono fun _ _ ⟨v, b', U', h1, h2, h3⟩ => ⟨v, b', U', h1, h2, hr _ _ h3⟩
def FinM (w0 : World) (U0 : Mk) (HX : List Blk) (RW : List Row) (F : Fact) (R : Value → Blk → Prop) : Ending → World → Prop := fun e w' => ∃ v b' U', e = .returned v ∧ Mem w0 U0 (b' :: HX) RW F w' U' ∧ R v b'
theorem m_enter {f : Nat} {fn : Func} {c : Code} {args : List Value} {b : Blk} {R : Value → Blk → Prop} (hf : P.funcs[f]? = some fn) (hb : fn.body = some c) (hn : fn.ntmps = n) (hl : args.length ≤ n) (hE : Args args E)
    (k : ∀ w0 U0 HX RW w U a, Sta w0 U0 n E (b :: HX) RW F a w U → c.wp P (bodyPost P fn (FinM w0 U0 HX RW F R)) a w) : MethC P f args b F R := by
  intro w0 U0 HX RW w U hm
  refine calls_of_wp hf hb (k _ _ _ _ _ U _ ?_)
  refine { hm with size := by simp [hn]; omega, defs := rfl, env := fun d v hd => ?_ }
  have := hE.get d v hd
  have hlt : d < args.length := (List.getElem?_eq_some_iff.1 this).1
  simp only
  rw [Array.getElem?_append_left (by simpa using hlt)]
  simpa using this
theorem m_ret (h : Sta w0 U0 n E H RW F a w U) {fn : Func} {rs : List ResultVar} {vs : List Value} {R : Value → Blk → Prop} (hf : fn.results = rs.toArray) (hr : Res P E H rs vs) (k : ∃ b', H'.Sublist H ∧ H' = b' :: HX ∧ R (packed vs) b') : bodyPost P fn (FinM w0 U0 HX RW F R) .ret a w := by
  obtain ⟨b', hs, rfl, hR⟩ := k
  exact bodyPost_ret (results_run h hf hr) h.defs ⟨_, b', U, rfl, (h.drop hs).mem, hR⟩
theorem m_end (h : Sta w0 U0 n E H RW F a w U) {fn : Func} {rs : List ResultVar} {vs : List Value} {R : Value → Blk → Prop} (hf : fn.results = rs.toArray) (hr : Res P E H rs vs) (k : ∃ b', H'.Sublist H ∧ H' = b' :: HX ∧ R (packed vs) b') : bodyPost P fn (FinM w0 U0 HX RW F R) .normal a w := by
  obtain ⟨b', hs, rfl, hR⟩ := k
  exact bodyPost_end (results_run h hf hr) h.defs ⟨_, b', U, rfl, (h.drop hs).mem, hR⟩
/-- A call of such a function: block b stands between H1 and H2. -/
theorem r_callm (h : Sta w0 U0 n E H RW F a w U) {f : Nat} {x : Operand} {xs : List Operand} {fs vs : List Value} {tys : Array Nat} {b : Blk} {R : Value → Blk → Prop} (hH : H = H1 ++ b :: H2) (hf : ev E x = some (.func (.func f) fs.toArray #[])) (hx : evs E xs = some vs) (he : Enters P f) (hc : MethC P f (fs ++ vs) b F R) (hd : Nat.blt d n = true)
    (kk : ∀ a v b' w' U', R v b' → Sta w0 U0 n ((d, v) :: E) (H1 ++ b' :: H2) RW F a w' U' → K a w') : Oper.wp P ⟨some d, .call ⟨.value x, xs.toArray, tys⟩, ty, pos, aft, gd⟩ a w K Q := by
  subst hH
  obtain ⟨fn, hfn, hb⟩ : ∃ fn, P.funcs[f]? = some fn ∧ (!(fn.name == "runtime.NumGoroutine") && !fn.body.isNone) = true := by
    unfold Enters at he
    cases hf : P.funcs[f]? with
    | none => simp [hf] at he
    | some fn => exact ⟨fn, rfl, by simpa [hf] using he⟩
  simp only [Bool.and_eq_true, Bool.not_eq_true'] at hb
  unfold Oper.wp
  have hrun : (execOp a.eval ⟨some d, .call ⟨.value x, xs.toArray, tys⟩, ty, pos, aft, gd⟩).run P w = .ok (.enter f (fs ++ vs).toArray) w := by
    have h1 : ¬ fn.name = "runtime.NumGoroutine" := by simpa using hb.1
    have h2 : ¬ fn.body = none := fun e => by simp [e] at hb
    have harg' : List.map a.eval xs = vs := h.evals hx
    simp [execOp, resolve, Deferred.ofValue, h.eval hf, invoke, callFunc, hfn, h1, h2, harg']
  rw [hrun]
  show Calls P f (fs ++ vs).toArray w _
  refine (hc _ _ _ _ _ _ ((h.perm List.perm_middle).mem)).mono ?_
  rintro e w' ⟨v, b', U', rfl, hm, hR⟩
  have hm := hm.perm (List.perm_middle (l₁ := H1) (l₂ := H2) (a := b')).symm
  have hst : Sta w0 U0 n E (H1 ++ b' :: H2) RW F a w' U' := { hm with size := h.size, defs := h.defs, env := h.env }
  exact kk _ _ _ _ U' hR (hst.put hd v)
/-- .. whose result nobody takes. -/
theorem r_callm0 (h : Sta w0 U0 n E H RW F a w U) {f : Nat} {xs : List Operand} {vs : List Value} {tys : Array Nat} {b : Blk} {R : Value → Blk → Prop} (hH : H = H1 ++ b :: H2) (hx : evs E xs = some vs) (he : Enters P f) (hc : MethC P f vs b F R) (hd : Nat.blt d n = true)
    (kk : ∀ a v b' w' U', R v b' → Sta w0 U0 n ((d, v) :: E) (H1 ++ b' :: H2) RW F a w' U' → K a w') : Oper.wp P ⟨some d, .call ⟨.value (.func f), xs.toArray, tys⟩, ty, pos, aft, gd⟩ a w K Q :=
  r_callm (fs := []) h hH rfl hx he hc hd kk

theorem q_nilCheck (h : Sta w0 U0 n E H RW F a w U) {x : Operand} {p : Addr} (hx : ev E x = some (.pointer (some p))) {dst : Option Tmp} : (execOp a.eval ⟨dst, .nilCheck x, ty, pos, aft, gd⟩).run P w = .ok (.value (.pointer (some p))) w := by
  simp [execOp, h.eval hx]
theorem r_nilCheck (h : Sta w0 U0 n E H RW F a w U) {x : Operand} {p : Addr} (hx : ev E x = some (.pointer (some p))) (hd : Nat.blt d n = true)
    (kk : ∀ a, Sta w0 U0 n ((d, .pointer (some p)) :: E) H RW F a w U → K a w) : Oper.wp P ⟨some d, .nilCheck x, ty, pos, aft, gd⟩ a w K Q := r_val h (q_nilCheck h hx) hd kk
theorem r_makeFunc (h : Sta w0 U0 n E H RW F a w U) {f : Nat} {x : Operand} {v : Value} (hx : ev E x = some v) (hd : Nat.blt d n = true)
    (kk : ∀ a, Sta w0 U0 n ((d, .func (.func f) [v].toArray #[]) :: E) H RW F a w U → K a w) : Oper.wp P ⟨some d, .makeFunc (.func f) #[x] #[], ty, pos, aft, gd⟩ a w K Q := by
  refine r_val h ?_ hd kk
  simp [execOp, Instr.makeFunc, h.eval hx]

/-! ### Strings -/
theorem q_indexS (h : Sta w0 U0 n E H RW F a w U) {t : Nat} {x y : Operand} {s : ByteArray} {i : Int} {ik : IntKind} {b : UInt8} (hx : ev E x = some (.string s)) (hy : ev E y = some (.int ik i)) (ht : P.underlying t = some .string) (h0 : 0 ≤ i) (hb : s.toList[i.toNat]? = some b) {dst : Option Tmp} :
    (execOp a.eval ⟨dst, .index t x y, ty, pos, aft, gd⟩).run P w = .ok (.value (.int .u8 (b.toNat : Int))) w := by
  have hget : s[i.toNat]? = some b := by
    have hd : s.data[i.toNat]? = some b := by rw [← hb, ByteArray.toList_eq]; simp
    obtain ⟨hlt, he⟩ := Array.getElem?_eq_some_iff.1 hd
    have hlt' : i.toNat < s.size := hlt
    simp only [getElem?_pos, hlt']
    exact congrArg some he
  simp [execOp, Instr.index, h.eval hx, h.eval hy, run_underlying ht, asIntOf, h0, hget]
theorem r_indexS (h : Sta w0 U0 n E H RW F a w U) {t : Nat} {x y : Operand} {s : ByteArray} {i : Int} {ik : IntKind} {b : UInt8} (hx : ev E x = some (.string s)) (hy : ev E y = some (.int ik i)) (ht : P.underlying t = some .string) (h0 : 0 ≤ i) (hb : s.toList[i.toNat]? = some b) (hd : Nat.blt d n = true)
    (kk : ∀ a, Sta w0 U0 n ((d, .int .u8 (b.toNat : Int)) :: E) H RW F a w U → K a w) : Oper.wp P ⟨some d, .index t x y, ty, pos, aft, gd⟩ a w K Q := r_val h (q_indexS h hx hy ht h0 hb) hd kk
theorem toList_extract (s : ByteArray) (i j : Nat) : (s.extract i j).toList = (s.toList.drop i).take (j - i) := by
  rw [ByteArray.toList_eq, ByteArray.toList_eq, ByteArray.data_extract, Array.toList_extract]
/-- A piece of a string: [i:j], [i:], [:j]. -/
theorem q_substr (h : Sta w0 U0 n E H RW F a w U) {t : Nat} {x y z : Operand} {s : ByteArray} {i j : Int} {ik jk : IntKind} (hx : ev E x = some (.string s)) (hy : ev E y = some (.int ik i)) (hz : ev E z = some (.int jk j)) (ht : P.underlying t = some .string) (h0 : 0 ≤ i) (h1 : i ≤ j) (h2 : j ≤ s.size) {dst : Option Tmp} :
    (execOp a.eval ⟨dst, .slice t x (some y) (some z) none, ty, pos, aft, gd⟩).run P w = .ok (.value (.string (s.extract i.toNat j.toNat))) w := by
  have e1 : 0 ≤ j ∧ j ≤ s.size := ⟨by omega, h2⟩
  have e2 : 0 ≤ i ∧ i ≤ (j.toNat : Int) := ⟨h0, by omega⟩
  simp [execOp, Instr.sliceAt, Instr.slice, Instr.sliceBounds, Instr.sliceBound, h.eval hx, h.eval hy, h.eval hz, run_underlying ht, asIntOf, e1.1, e1.2, e2.1]
  intro hh
  omega
theorem q_substr_lo (h : Sta w0 U0 n E H RW F a w U) {t : Nat} {x y : Operand} {s : ByteArray} {i : Int} {ik : IntKind} (hx : ev E x = some (.string s)) (hy : ev E y = some (.int ik i)) (ht : P.underlying t = some .string) (h0 : 0 ≤ i) (h1 : i ≤ s.size) {dst : Option Tmp} :
    (execOp a.eval ⟨dst, .slice t x (some y) none none, ty, pos, aft, gd⟩).run P w = .ok (.value (.string (s.extract i.toNat s.size))) w := by
  simp [execOp, Instr.sliceAt, Instr.slice, Instr.sliceBounds, Instr.sliceBound, h.eval hx, h.eval hy, run_underlying ht, asIntOf, h0, h1]
theorem q_substr_hi (h : Sta w0 U0 n E H RW F a w U) {t : Nat} {x z : Operand} {s : ByteArray} {j : Int} {jk : IntKind} (hx : ev E x = some (.string s)) (hz : ev E z = some (.int jk j)) (ht : P.underlying t = some .string) (h0 : 0 ≤ j) (h1 : j ≤ s.size) {dst : Option Tmp} :
    (execOp a.eval ⟨dst, .slice t x none (some z) none, ty, pos, aft, gd⟩).run P w = .ok (.value (.string (s.extract 0 j.toNat))) w := by
  simp [execOp, Instr.sliceAt, Instr.slice, Instr.sliceBounds, Instr.sliceBound, h.eval hx, h.eval hz, run_underlying ht, asIntOf, h0, h1]
theorem r_substr (h : Sta w0 U0 n E H RW F a w U) {t : Nat} {x y z : Operand} {s : ByteArray} {i j : Int} {ik jk : IntKind} (hx : ev E x = some (.string s)) (hy : ev E y = some (.int ik i)) (hz : ev E z = some (.int jk j)) (ht : P.underlying t = some .string) (h0 : 0 ≤ i) (h1 : i ≤ j) (h2 : j ≤ s.size) (hd : Nat.blt d n = true)
    (kk : ∀ a, Sta w0 U0 n ((d, .string (s.extract i.toNat j.toNat)) :: E) H RW F a w U → K a w) : Oper.wp P ⟨some d, .slice t x (some y) (some z) none, ty, pos, aft, gd⟩ a w K Q := r_val h (q_substr h hx hy hz ht h0 h1 h2) hd kk
theorem r_substr_lo (h : Sta w0 U0 n E H RW F a w U) {t : Nat} {x y : Operand} {s : ByteArray} {i : Int} {ik : IntKind} (hx : ev E x = some (.string s)) (hy : ev E y = some (.int ik i)) (ht : P.underlying t = some .string) (h0 : 0 ≤ i) (h1 : i ≤ s.size) (hd : Nat.blt d n = true)
    (kk : ∀ a, Sta w0 U0 n ((d, .string (s.extract i.toNat s.size)) :: E) H RW F a w U → K a w) : Oper.wp P ⟨some d, .slice t x (some y) none none, ty, pos, aft, gd⟩ a w K Q := r_val h (q_substr_lo h hx hy ht h0 h1) hd kk
theorem r_substr_hi (h : Sta w0 U0 n E H RW F a w U) {t : Nat} {x z : Operand} {s : ByteArray} {j : Int} {jk : IntKind} (hx : ev E x = some (.string s)) (hz : ev E z = some (.int jk j)) (ht : P.underlying t = some .string) (h0 : 0 ≤ j) (h1 : j ≤ s.size) (hd : Nat.blt d n = true)
    (kk : ∀ a, Sta w0 U0 n ((d, .string (s.extract 0 j.toNat)) :: E) H RW F a w U → K a w) : Oper.wp P ⟨some d, .slice t x none (some z) none, ty, pos, aft, gd⟩ a w K Q := r_val h (q_substr_hi h hx hz ht h0 h1) hd kk
theorem size_toList (s : ByteArray) : s.toList.length = s.size := by rw [ByteArray.toList_eq]; simp
theorem r_concat (h : Sta w0 U0 n E H RW F a w U) {t t' : Nat} {x y : Operand} {p q : ByteArray} (hx : ev E x = some (.string p)) (hy : ev E y = some (.string q)) (hs : p.size + q.size ≤ 9223372036854775807) (hd : Nat.blt d n = true)
    (kk : ∀ a, Sta w0 U0 n ((d, .string (p ++ q)) :: E) H RW F a w U → K a w) : Oper.wp P ⟨some d, .binOp .add t x y t', ty, pos, aft, gd⟩ a w K Q := by
  refine r_val h ?_ hd kk
  simp [execOp, h.eval hx, h.eval hy, eqGuard, binOp, Op.stringOp]
  omega

/-- A piece of code that may also leave otherwise. -/
theorem x_cut2 {c : Code} (M : Act → World → Prop) (hk : ∀ a w, M a w → Q .normal a w) (h : c.wp P (Exit.then M Q) a w) : c.wp P Q a w :=
  Code.wp_mono (fun e a w hq => by cases e <;> first | exact hk _ _ hq | exact hq) h
/-! ### A scope in which the run jumps back to its first label -/
theorem x_scope {r : Code} {l : Nat} (J : Nat → Act → World → Prop) (m : Nat) (h : J m a w) (pass : ∀ m a w, J m a w → r.wp P (Exit.jump l (fun a w => ∃ m', m' < m ∧ J m' a w) Q) a w) : (Code.scope (.seq (.label l) r)).wp P Q a w := by
  have two : ∀ a w, (∃ m, J m a w) → r.wp P (Exit.jump l (fun a' w' => (∃ m, J m a' w') ∧ leastOf (fun m => J m a' w') < leastOf (fun m => J m a w)) Q) a w := fun a w hJ => by
    refine wp_mono (pass _ a w (leastOf_spec hJ).1) fun e a' w' hq => ?_
    cases e with
    | goto l' =>
      obtain ⟨hl, n', hlt, hJ'⟩ := hq
      exact ⟨hl, ⟨n', hJ'⟩, Nat.lt_of_le_of_lt ((leastOf_spec ⟨n', hJ'⟩).2 n' hJ') hlt⟩
    | _ => exact hq
  refine wp_scope_jumps (rest := .seq .skip r) l (fun a w => ∃ m, J m a w) (fun a w => leastOf (fun m => J m a w)) (by simp [findLabel]) ?_ ?_
  · refine wp_seq (wp_label (wp_mono (two a w ⟨m, h⟩) fun e a' w' hq => ?_))
    cases e with
    | goto l' => exact ⟨hq.1, hq.2.1⟩
    | _ => exact hq
  · intro a w hJ
    refine wp_seq (wp_skip (wp_mono (two a w hJ) fun e a' w' hq => ?_))
    cases e with
    | _ => exact hq
theorem jump_n {l : Nat} {J : Act → World → Prop} (h : Q .normal a w) : Exit.jump l J Q .normal a w := h
theorem jump_r {l : Nat} {J : Act → World → Prop} (h : Q .ret a w) : Exit.jump l J Q .ret a w := h
theorem jump_x {l i : Nat} {J : Act → World → Prop} (h : Q (.exit i) a w) : Exit.jump l J Q (.exit i) a w := h
theorem jump_g {l : Nat} {J : Act → World → Prop} (h : J a w) : Exit.jump l J Q (.goto l) a w := ⟨rfl, h⟩
theorem nogo_n (h : Q .normal a w) : Exit.noGoto Q .normal a w := h
theorem nogo_r (h : Q .ret a w) : Exit.noGoto Q .ret a w := h
theorem nogo_x {i : Nat} (h : Q (.exit i) a w) : Exit.noGoto Q (.exit i) a w := h
theorem then_g {l : Nat} (h : Q (.goto l) a w) : Exit.then K Q (.goto l) a w := h
theorem inb_g {i l : Nat} (h : Q (.goto l) a w) : Exit.inBlock i Q (.goto l) a w := h
end
end Go.Proofs.YtjnjkbmegfkiiaaGreat
