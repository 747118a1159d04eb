/- The small logic's fifth part: what slices and structs read as. -/
import Derived.Test.YtjnjkbmegfkiiaaGreatX4
namespace Go.Proofs.YtjnjkbmegfkiiaaGreat
open Go.RowKit

/-- A kind of element: how many cells, and what they read as. -/
structure EK (T : Type) where
  sz : Nat
  pos : 0 < sz
  R : List Value → T → World → Mk → Prop
  mono : ∀ cs t, Mono (R cs t)
  len : ∀ {cs t w U}, R cs t w U → cs.length = sz

/-- The cells of element j of a slice that begins at A are these, and are settled. -/
def Elt (sz : Nat) (A : Option Addr) (j : Nat) (cs : List Value) : Fact := fun w U =>
  ∃ g o, A = some ⟨g, o, none⟩ ∧ cs.length = sz ∧ ∀ q u, cs[q]? = some u → o + j * sz + q < U g ∧ w.cell? ⟨g, o + j * sz + q, none⟩ = some u
theorem Elt.mono (sz : Nat) (A : Option Addr) (j : Nat) (cs : List Value) : Mono (Elt sz A j cs) := by
  rintro w U w' U' e ⟨g, o, hA, hl, h⟩
  exact ⟨g, o, hA, hl, fun q u hu => ⟨Nat.lt_of_lt_of_le (h q u hu).1 (e.mark g), e.cell _ _ _ (h q u hu).1 (h q u hu).2⟩⟩

/-- A slice reads as a list. -/
def Sl {T : Type} (K : EK T) (v : Value) (ts : List T) : Fact := fun w U =>
  ∃ A c, v = .slice A ts.length c ∧ (ts.length ≤ c ∧ ts.length ≤ 1000000000000) ∧ ∀ j t, ts[j]? = some t → ∃ cs, Elt K.sz A j cs w U ∧ K.R cs t w U
theorem Sl.mono {T : Type} (K : EK T) (v : Value) (ts : List T) : Mono (Sl K v ts) := by
  rintro w U w' U' e ⟨A, c, hv, hc, h⟩
  exact ⟨A, c, hv, hc, fun j t ht => by obtain ⟨cs, h1, h2⟩ := h j t ht; exact ⟨cs, Elt.mono _ _ _ _ _ _ _ _ e h1, K.mono _ _ _ _ _ _ e h2⟩⟩
theorem Sl.nil {T : Type} (K : EK T) (A : Option Addr) (c : Nat) (w : World) (U : Mk) : Sl K (.slice A 0 c) [] w U := ⟨A, c, rfl, ⟨Nat.zero_le _, Nat.zero_le _⟩, fun j t ht => by simp at ht⟩

/-- Cells that read, one behind the other, as a list. -/
def Flat {T : Type} (K : EK T) (cs : List Value) (ts : List T) : Fact := fun w U =>
  cs.length = ts.length * K.sz ∧ ∀ j t, ts[j]? = some t → K.R ((cs.drop (j * K.sz)).take K.sz) t w U
theorem Flat.mono {T : Type} (K : EK T) (cs : List Value) (ts : List T) : Mono (Flat K cs ts) := by
  rintro w U w' U' e ⟨hl, h⟩
  exact ⟨hl, fun j t ht => K.mono _ _ _ _ _ _ e (h j t ht)⟩
theorem Flat.nil {T : Type} (K : EK T) (w : World) (U : Mk) : Flat K [] [] w U := ⟨by simp, fun j t ht => by simp at ht⟩
theorem Flat.snoc {T : Type} {K : EK T} {cs c : List Value} {ts : List T} {t : T} {w : World} {U : Mk} (h : Flat K cs ts w U) (hc : K.R c t w U) : Flat K (cs ++ c) (ts ++ [t]) w U := by
  obtain ⟨hl, h⟩ := h
  have hcl := K.len hc
  refine ⟨by simp [hl, hcl, Nat.add_mul], fun j u hu => ?_⟩
  rcases Nat.lt_trichotomy j ts.length with hj | hj | hj
  · rw [List.getElem?_append_left hj] at hu
    have hjm : (j + 1) * K.sz ≤ ts.length * K.sz := Nat.mul_le_mul_right _ hj
    rw [Nat.add_mul, Nat.one_mul] at hjm
    have : ((cs ++ c).drop (j * K.sz)).take K.sz = (cs.drop (j * K.sz)).take K.sz := by
      rw [List.drop_append_of_le_length (by omega), List.take_append_of_le_length (by simp; omega)]
    rw [this]
    exact h j u hu
  · subst hj
    simp at hu
    subst hu
    have : ((cs ++ c).drop (ts.length * K.sz)).take K.sz = c := by
      rw [← hl, List.drop_left, ← hcl, List.take_length]
    rw [this]
    exact hc
  · rw [List.getElem?_eq_none (by simp; omega)] at hu
    cases hu
theorem Flat.one {T : Type} {K : EK T} {c : List Value} {t : T} {w : World} {U : Mk} (hc : K.R c t w U) : Flat K c [t] w U := by
  have := (Flat.nil K w U).snoc hc
  simpa using this

/-- Settled cells that read as a list: the slice reads as it. -/
theorem Sl.of_flat {T : Type} {K : EK T} {A : Option Addr} {k c : Nat} {cs : List Value} {ts : List T} {w : World} {U : Mk} (hc : Cont (.slice A k c) cs w U) (hf : Flat K cs ts w U) (hk : ts.length = k) (hkc : k ≤ c) (hkb : k ≤ 1000000000 := by omega) : Sl K (.slice A k c) ts w U := by
  subst hk
  refine ⟨A, c, rfl, ⟨hkc, by omega⟩, fun j t ht => ?_⟩
  have hj : j < ts.length := (List.getElem?_eq_some_iff.1 ht).1
  have hjm : (j + 1) * K.sz ≤ ts.length * K.sz := Nat.mul_le_mul_right _ hj
  rw [Nat.add_mul, Nat.one_mul] at hjm
  have hl := hf.1
  have hp := K.pos
  refine ⟨_, ?_, hf.2 j t ht⟩
  rcases hc with hc | ⟨g, o, m, c', hv, h⟩
  · subst hc; simp at hl; omega
  · simp only [Value.slice.injEq] at hv
    obtain ⟨rfl, rfl, rfl⟩ := hv
    refine ⟨g, o, rfl, K.len (hf.2 j t ht), fun q u hu => ?_⟩
    rw [List.getElem?_take] at hu
    split at hu
    · rw [List.getElem?_drop] at hu
      have := h _ _ hu
      rw [← Nat.add_assoc] at this
      exact this
    · cases hu

/-! ### The program's own kinds -/
inductive ExT where
  | mk (kd : Int) (nm : List UInt8) (m : Int) (args : List ExT)
inductive TyT where
  | mk (kd : Int) (nm : List UInt8) (m : Int) (args : List TyT)

inductive ERep (w : World) (U : Mk) : List Value → ExT → Prop where
  | mk {kd m x y : Int} {nm : ByteArray} {A : Option Addr} {c : Nat} (args : List ExT) (cf : Nat → List Value) (hc : args.length ≤ c ∧ args.length ≤ 1000000000000) (he : ∀ j t, args[j]? = some t → Elt 6 A j (cf j) w U) (hr : ∀ j t, args[j]? = some t → ERep w U (cf j) t) :
      ERep w U [.int .i64 kd, .string nm, .int .i64 m, .slice A args.length c, .int .i64 x, .int .i64 y] (.mk kd nm.toList m args)
inductive TRep (w : World) (U : Mk) : List Value → TyT → Prop where
  | mk {kd m : Int} {nm : ByteArray} {A : Option Addr} {c : Nat} (args : List TyT) (cf : Nat → List Value) (hc : args.length ≤ c ∧ args.length ≤ 1000000000000) (he : ∀ j t, args[j]? = some t → Elt 4 A j (cf j) w U) (hr : ∀ j t, args[j]? = some t → TRep w U (cf j) t) :
      TRep w U [.int .i64 kd, .string nm, .int .i64 m, .slice A args.length c] (.mk kd nm.toList m args)
theorem ERep.ext {w w' : World} {U U' : Mk} (e : Ext w U w' U') {cs : List Value} {t : ExT} (h : ERep w U cs t) : ERep w' U' cs t := by
  induction h with
  | mk args cf hc he hr ih => exact .mk args cf hc (fun j t ht => Elt.mono _ _ _ _ _ _ _ _ e (he j t ht)) ih
theorem TRep.ext {w w' : World} {U U' : Mk} (e : Ext w U w' U') {cs : List Value} {t : TyT} (h : TRep w U cs t) : TRep w' U' cs t := by
  induction h with
  | mk args cf hc he hr ih => exact .mk args cf hc (fun j t ht => Elt.mono _ _ _ _ _ _ _ _ e (he j t ht)) ih
def kE : EK ExT := ⟨6, by omega, fun cs t w U => ERep w U cs t, fun _ _ _ _ _ _ e h => h.ext e, fun h => by cases h; rfl⟩
def kT : EK TyT := ⟨4, by omega, fun cs t w U => TRep w U cs t, fun _ _ _ _ _ _ e h => h.ext e, fun h => by cases h; rfl⟩
def kS : EK (List UInt8) := ⟨1, by omega, fun cs t _ _ => ∃ s : ByteArray, cs = [.string s] ∧ t = s.toList, fun _ _ _ _ _ _ _ h => h, fun h => by obtain ⟨s, rfl, _⟩ := h; rfl⟩
theorem ERep.of_sl {w : World} {U : Mk} {kd m x y : Int} {nm : ByteArray} {v : Value} {args : List ExT} (h : Sl kE v args w U) : ERep w U [.int .i64 kd, .string nm, .int .i64 m, v, .int .i64 x, .int .i64 y] (.mk kd nm.toList m args) := by
  obtain ⟨A, c, rfl, hc, h⟩ := h
  have : ∀ j, ∃ cs, ∀ t, args[j]? = some t → Elt 6 A j cs w U ∧ ERep w U cs t := fun j => by
    cases ht : args[j]? with
    | none => exact ⟨[], fun t h => by cases h⟩
    | some t =>
      obtain ⟨cs, h1, h2⟩ := h j t ht
      exact ⟨cs, fun t' ht' => by simp only [Option.some.injEq] at ht'; subst ht'; exact ⟨h1, h2⟩⟩
  exact .mk args (fun j => (this j).choose) hc (fun j t ht => ((this j).choose_spec t ht).1) (fun j t ht => ((this j).choose_spec t ht).2)
theorem TRep.of_sl {w : World} {U : Mk} {kd m : Int} {nm : ByteArray} {v : Value} {args : List TyT} (h : Sl kT v args w U) : TRep w U [.int .i64 kd, .string nm, .int .i64 m, v] (.mk kd nm.toList m args) := by
  obtain ⟨A, c, rfl, hc, h⟩ := h
  have : ∀ j, ∃ cs, ∀ t, args[j]? = some t → Elt 4 A j cs w U ∧ TRep w U cs t := fun j => by
    cases ht : args[j]? with
    | none => exact ⟨[], fun t h => by cases h⟩
    | some t =>
      obtain ⟨cs, h1, h2⟩ := h j t ht
      exact ⟨cs, fun t' ht' => by simp only [Option.some.injEq] at ht'; subst ht'; exact ⟨h1, h2⟩⟩
  exact .mk args (fun j => (this j).choose) hc (fun j t ht => ((this j).choose_spec t ht).1) (fun j t ht => ((this j).choose_spec t ht).2)
theorem ERep.open_ {w : World} {U : Mk} {cs : List Value} {t : ExT} (h : ERep w U cs t) : ∃ kd nm m v x y args, cs = [.int .i64 kd, .string nm, .int .i64 m, v, .int .i64 x, .int .i64 y] ∧ t = .mk kd nm.toList m args ∧ Sl kE v args w U := by
  cases h with
  | mk args cf hc he hr => exact ⟨_, _, _, _, _, _, args, rfl, rfl, _, _, rfl, hc, fun j t ht => ⟨cf j, he j t ht, hr j t ht⟩⟩
theorem TRep.open_ {w : World} {U : Mk} {cs : List Value} {t : TyT} (h : TRep w U cs t) : ∃ kd nm m v args, cs = [.int .i64 kd, .string nm, .int .i64 m, v] ∧ t = .mk kd nm.toList m args ∧ Sl kT v args w U := by
  cases h with
  | mk args cf hc he hr => exact ⟨_, _, _, _, args, rfl, rfl, _, _, rfl, hc, fun j t ht => ⟨cf j, he j t ht, hr j t ht⟩⟩

/-- A constructor: its name, its types. A declaration. A rule. -/
structure CoT where
  nm : List UInt8
  tys : List TyT
structure DaT where
  nm : List UInt8
  vars : List (List UInt8)
  cons : List CoT
structure RuT where
  nm : List UInt8
  pats : List ExT
  guard : List ExT
  body : ExT
def kC : EK CoT := ⟨4, by omega, fun cs t w U => ∃ (nm : ByteArray) (v : Value) (x y : Int), cs = [.string nm, v, .int .i64 x, .int .i64 y] ∧ t.nm = nm.toList ∧ Sl kT v t.tys w U,
  fun _ _ _ _ _ _ e h => by obtain ⟨nm, v, x, y, h1, h2, h3⟩ := h; exact ⟨nm, v, x, y, h1, h2, Sl.mono _ _ _ _ _ _ _ e h3⟩, fun h => by obtain ⟨nm, v, x, y, rfl, _⟩ := h; rfl⟩
def kDn (N : Nat) : EK DaT := ⟨5, by omega, fun cs t w U => ∃ (nm : ByteArray) (v u : Value) (x y : Int), cs = [.string nm, v, u, .int .i64 x, .int .i64 y] ∧ t.nm = nm.toList ∧ Sl kS v t.vars w U ∧ Sl kC u t.cons w U ∧ t.vars.length ≤ N ∧ t.cons.length ≤ N,
  fun _ _ _ _ _ _ e h => by obtain ⟨nm, v, u, x, y, h1, h2, h3, h4, h5, h6⟩ := h; exact ⟨nm, v, u, x, y, h1, h2, Sl.mono _ _ _ _ _ _ _ e h3, Sl.mono _ _ _ _ _ _ _ e h4, h5, h6⟩, fun h => by obtain ⟨nm, v, u, x, y, rfl, _⟩ := h; rfl⟩
def kRn (N : Nat) : EK RuT := ⟨11, by omega, fun cs t w U => ∃ (nm : ByteArray) (v u : Value) (bs : List Value) (x y : Int), cs = .string nm :: v :: u :: (bs ++ [.int .i64 x, .int .i64 y]) ∧ t.nm = nm.toList ∧ Sl kE v t.pats w U ∧ Sl kE u t.guard w U ∧ ERep w U bs t.body ∧ t.pats.length ≤ N,
  fun _ _ _ _ _ _ e h => by obtain ⟨nm, v, u, bs, x, y, h1, h2, h3, h4, h5, h6⟩ := h; exact ⟨nm, v, u, bs, x, y, h1, h2, Sl.mono _ _ _ _ _ _ _ e h3, Sl.mono _ _ _ _ _ _ _ e h4, h5.ext e, h6⟩,
  fun h => by
    obtain ⟨nm, v, u, bs, x, y, rfl, _, _, _, h5, _⟩ := h
    have : bs.length = 6 := kE.len h5
    simp [this]⟩
abbrev kD : EK DaT := kDn 100000000
abbrev kR : EK RuT := kRn 100000000
end Go.Proofs.YtjnjkbmegfkiiaaGreat
