/- A small logic for walks: what is known of an activation (its slots, the blocks that it owns, the rows that it appends to, facts that stay), and a rule for each operation. -/
import Derived.Test.YtjnjkbmegfkiiaaGreatRows
import Derived.Below
import Derived.RegionTactic
import Derived.Deep.LoopGhost
import Derived.Maps.AppendAt
import Derived.Laws.CopyRow
import Derived.Laws.Cells
import Derived.KernelRfl
import Derived.Tactics2
namespace Go.Proofs.YtjnjkbmegfkiiaaGreat
open Go.RowKit

/-- How many leading cells of a block are settled: they are never written again. -/
abbrev Mk := Nat → Nat
def UB (w : World) (U : Mk) : Prop := ∀ b, w.heap.size ≤ b → U b = 0

structure Ext (w : World) (U : Mk) (w' : World) (U' : Mk) : Prop where
  size : w.heap.size ≤ w'.heap.size
  mark : ∀ b, U b ≤ U' b
  cell : ∀ b j v, j < U b → w.cell? ⟨b, j, none⟩ = some v → w'.cell? ⟨b, j, none⟩ = some v
theorem Ext.refl (w : World) (U : Mk) : Ext w U w U := ⟨Nat.le_refl _, fun _ => Nat.le_refl _, fun _ _ _ _ h => h⟩
theorem Ext.trans {a b c : World} {U V W : Mk} (h : Ext a U b V) (k : Ext b V c W) : Ext a U c W :=
  ⟨Nat.le_trans h.size k.size, fun x => Nat.le_trans (h.mark x) (k.mark x), fun x j v hj hv => k.cell x j v (Nat.lt_of_lt_of_le hj (h.mark x)) (h.cell x j v hj hv)⟩

/-- A fact that stays, whatever comes. -/
abbrev Fact := World → Mk → Prop
def Mono (p : Fact) : Prop := ∀ w U w' U', Ext w U w' U' → p w U → p w' U'
theorem Mono.true_ : Mono (fun _ _ => True) := fun _ _ _ _ _ _ => trivial
theorem Mono.and {p q : Fact} (hp : Mono p) (hq : Mono q) : Mono (fun w U => p w U ∧ q w U) := fun _ _ _ _ e h => ⟨hp _ _ _ _ e h.1, hq _ _ _ _ e h.2⟩

/-- What has come since (w, U): nothing that was there has turned. -/
structure Since (w : World) (U : Mk) (w' : World) (U' : Mk) : Prop where
  below : Below w.heap.size w w'
  old : ∀ b, b < w.heap.size → U' b = U b
  ub : UB w' U'
theorem Since.refl {w : World} {U : Mk} (h : UB w U) : Since w U w U := ⟨Below.refl _ _, fun _ _ => rfl, h⟩
theorem Since.trans {a b c : World} {U V W : Mk} (h : Since a U b V) (k : Since b V c W) : Since a U c W :=
  ⟨h.below.trans (k.below.mono h.below.size), fun x hx => (k.old x (Nat.lt_of_lt_of_le hx h.below.size)).trans (h.old x hx), k.ub⟩
theorem Since.ext {w w' : World} {U U' : Mk} (h : Since w U w' U') (hu : UB w U) : Ext w U w' U' := by
  refine ⟨h.below.size, fun b => ?_, fun b j v hj hv => ?_⟩
  · rcases Nat.lt_or_ge b w.heap.size with hb | hb
    · exact Nat.le_of_eq (h.old b hb).symm
    · rw [hu b hb]; exact Nat.zero_le _
  · have hb : b < w.heap.size := by
      rcases Nat.lt_or_ge b w.heap.size with hb | hb
      · exact hb
      · rw [hu b hb] at hj; omega
    rw [h.below.cell (p := ⟨b, j, none⟩) hb]
    exact hv

structure Blk where
  g : Nat
  t : Nat
  cs : List Value
structure Row where
  v : Value
  e : Nat
  sz : Nat
  n : Nat

def Blk.ok (w : World) (U : Mk) (base : Nat) (b : Blk) : Prop := w.heap[b.g]? = some (.cells b.cs.toArray b.t (0, 0)) ∧ U b.g = 0 ∧ base ≤ b.g
/-- A row that the activation appends to: nil, or a block of its own that is settled just as far as the row goes. -/
def Row.ok (w : World) (U : Mk) (base : Nat) (r : Row) : Prop :=
  0 < r.sz ∧ ((r.v = .slice none 0 0 ∧ r.n = 0) ∨
  ∃ g cap cur, r.v = .slice (some ⟨g, 0, none⟩) r.n cap ∧ base ≤ g ∧ w.heap[g]? = some (.cells cur r.e (0, 0)) ∧ r.n ≤ cap ∧ cap ≤ maxLen ∧ cur.size = cap * r.sz ∧ 0 < r.n ∧ U g = r.n * r.sz)
def Row.apart (r s : Row) : Prop := r.v.ownBlock = none ∨ r.v.ownBlock ≠ s.v.ownBlock

def look : List (Nat × Value) → Nat → Option Value
  | [], _ => none
  | (d, v) :: E, x => match Nat.beq d x with
    | true => some v
    | false => look E x
def nth : List Value → Nat → Option Value
  | [], _ => none
  | a :: _, 0 => some a
  | _ :: l, k + 1 => nth l k
theorem nth_eq : ∀ (l : List Value) (k : Nat), nth l k = l[k]?
  | [], _ => by simp [nth]
  | _ :: _, 0 => by simp [nth]
  | _ :: l, k + 1 => by simp [nth, nth_eq l k]

/-- The state of an activation that began at (w0, U0): n slots; of some of them the value is known; H: the blocks of its own, known whole; RW: the rows that it appends to; F: what stays. -/
structure Sta (w0 : World) (U0 : Mk) (n : Nat) (E : List (Nat × Value)) (H : List Blk) (RW : List Row) (F : Fact) (a : Act) (w : World) (U : Mk) : Prop where
  size : a.tmps.size = n
  defs : a.defers = []
  env : ∀ d v, look E d = some v → a.tmps[d]? = some v
  since : Since w0 U0 w U
  blk : ∀ b ∈ H, b.ok w U w0.heap.size
  apt : H.Pairwise fun b c => b.g ≠ c.g
  row : ∀ r ∈ RW, r.ok w U w0.heap.size
  rapt : RW.Pairwise fun r s => r.apart s ∧ s.apart r
  mono : Mono F
  fact : F w U

section
variable {w0 : World} {U0 : Mk} {n : Nat} {E E' : List (Nat × Value)} {H H' : List Blk} {RW : List Row} {F G : Fact} {a : Act} {w w' : World} {U U' : Mk}

theorem Row.ok_same {w w' : World} {U U' : Mk} {base : Nat} {r : Row} (h : r.ok w U base) (hb : ∀ g, r.v.ownBlock = some g → w'.heap[g]? = w.heap[g]? ∧ U' g = U g) : r.ok w' U' base := by
  refine ⟨h.1, ?_⟩
  rcases h.2 with h | ⟨g, cap, cur, hv, h1, h2, h3, h4, h5, h6, h7⟩
  · exact .inl h
  · have := hb g (by rw [hv]; rfl)
    exact .inr ⟨g, cap, cur, hv, h1, by rw [this.1]; exact h2, h3, h4, h5, h6, by rw [this.2]; exact h7⟩
theorem Row.ok_lt {w : World} {U : Mk} {base : Nat} {r : Row} (h : r.ok w U base) {g : Nat} (hg : r.v.ownBlock = some g) : g < w.heap.size ∧ base ≤ g ∧ 0 < U g := by
  obtain ⟨h0, h⟩ := h
  rcases h with ⟨h, _⟩ | ⟨g', cap, cur, hv, h1, h2, h3, h4, h5, h6, h7⟩
  · rw [h] at hg; simp [Value.ownBlock] at hg
  · rw [hv] at hg
    have : g' = g := by simpa [Value.ownBlock] using hg
    subst this
    exact ⟨(Array.getElem?_eq_some_iff.1 h2).1, h1, by rw [h7]; exact Nat.mul_pos h6 h0⟩

theorem Sta.ub (h : Sta w0 U0 n E H RW F a w U) : UB w U := h.since.ub

/-- What has come leaves all that was there as it was: the state goes on. -/
theorem Sta.grow (h : Sta w0 U0 n E H RW F a w U) (hs : Since w U w' U') : Sta w0 U0 n E H RW F a w' U' where
  size := h.size
  defs := h.defs
  env := h.env
  since := h.since.trans hs
  blk := fun b hb => by
    obtain ⟨h1, h2, h3⟩ := h.blk b hb
    have hlt : b.g < w.heap.size := (Array.getElem?_eq_some_iff.1 h1).1
    exact ⟨by rw [hs.below.block _ hlt]; exact h1, by rw [hs.old _ hlt]; exact h2, h3⟩
  apt := h.apt
  row := fun r hr => Row.ok_same (h.row r hr) fun g hg => by
    have hlt := (Row.ok_lt (h.row r hr) hg).1
    exact ⟨hs.below.block _ hlt, hs.old _ hlt⟩
  rapt := h.rapt
  mono := h.mono
  fact := h.mono _ _ _ _ (hs.ext h.ub) h.fact

theorem Sta.put (h : Sta w0 U0 n E H RW F a w U) {d : Nat} (hd : Nat.blt d n = true) (v : Value) : Sta w0 U0 n ((d, v) :: E) H RW F (a.put (some d) v) w U :=
  { h with
    size := by simp [Act.put, h.size]
    defs := h.defs
    env := fun x u hx => by
      have hd' : d < n := by simpa [Nat.blt_eq] using hd
      simp only [look] at hx
      simp only [Act.put]
      cases hb : Nat.beq d x with
      | true =>
        rw [hb] at hx
        have : d = x := Nat.eq_of_beq_eq_true hb
        subst this
        simp only [Option.some.injEq] at hx
        subst hx
        simp [h.size, hd']
      | false =>
        rw [hb] at hx
        have : d ≠ x := fun e => by subst e; simp at hb
        rw [Array.getElem?_setIfInBounds_ne this]
        exact h.env x u hx }

theorem Sta.addFact (h : Sta w0 U0 n E H RW F a w U) (hm : Mono G) (hg : G w U) : Sta w0 U0 n E H RW (fun w U => G w U ∧ F w U) a w U :=
  { h with mono := hm.and h.mono, fact := ⟨hg, h.fact⟩ }
theorem Sta.setFact (h : Sta w0 U0 n E H RW F a w U) (hm : Mono G) (hg : F w U → G w U) : Sta w0 U0 n E H RW G a w U :=
  { h with mono := hm, fact := hg h.fact }

/-- Less is known of the slots. -/
def Sub : List (Nat × Value) → List (Nat × Value) → Prop
  | [], _ => True
  | p :: ps, E => look E p.1 = some p.2 ∧ Sub ps E
theorem Sub.look {E E' : List (Nat × Value)} (h : Sub E' E) {d : Nat} {v : Value} (hd : look E' d = some v) : Go.Proofs.YtjnjkbmegfkiiaaGreat.look E d = some v := by
  induction E' with
  | nil => simp [Go.Proofs.YtjnjkbmegfkiiaaGreat.look] at hd
  | cons p ps ih =>
    simp only [Go.Proofs.YtjnjkbmegfkiiaaGreat.look] at hd
    cases hb : Nat.beq p.1 d with
    | true =>
      rw [hb] at hd
      simp only [Option.some.injEq] at hd
      subst hd
      have : p.1 = d := Nat.eq_of_beq_eq_true hb
      subst this
      exact h.1
    | false => rw [hb] at hd; exact ih h.2 hd
theorem Sta.less (h : Sta w0 U0 n E H RW F a w U) (hs : Sub E' E) : Sta w0 U0 n E' H RW F a w U := { h with env := fun d v hd => h.env d v (hs.look hd) }
theorem Sta.drop (h : Sta w0 U0 n E H RW F a w U) (hs : H'.Sublist H) : Sta w0 U0 n E H' RW F a w U :=
  { h with blk := fun b hb => h.blk b (hs.subset hb), apt := h.apt.sublist hs }

/-- What an operand is. -/
def ev (E : List (Nat × Value)) : Operand → Option Value
  | .tmp t => look E t
  | .const v => some v
  | .func f => some (.func (.func f) #[] #[])
  | .global _ => none
theorem Sta.eval (h : Sta w0 U0 n E H RW F a w U) {x : Operand} {v : Value} (hx : ev E x = some v) : a.eval x = v := by
  cases x with
  | tmp t => simp only [ev] at hx; simp [Act.eval, Array.getD_eq_getD_getElem?, h.env t v hx]
  | const u => simp only [ev, Option.some.injEq] at hx; exact hx
  | func f => simp only [ev, Option.some.injEq] at hx; exact hx
  | global g => simp [ev] at hx
def evs (E : List (Nat × Value)) : List Operand → Option (List Value)
  | [] => some []
  | x :: xs => match ev E x, evs E xs with
    | some v, some vs => some (v :: vs)
    | _, _ => none
theorem Sta.evals (h : Sta w0 U0 n E H RW F a w U) : ∀ {xs : List Operand} {vs : List Value}, evs E xs = some vs → xs.map a.eval = vs
  | [], vs, hx => by simp only [evs, Option.some.injEq] at hx; subst hx; rfl
  | x :: xs, vs, hx => by
    simp only [evs] at hx
    cases hv : ev E x with
    | none => rw [hv] at hx; simp at hx
    | some v =>
      cases hvs : evs E xs with
      | none => rw [hv, hvs] at hx; simp at hx
      | some us =>
        rw [hv, hvs] at hx
        simp only [Option.some.injEq] at hx
        subst hx
        rw [List.map_cons, h.eval hv, h.evals hvs]

theorem Blk.lt {b : Blk} {w : World} {U : Mk} {base : Nat} (h : b.ok w U base) : b.g < w.heap.size := (Array.getElem?_eq_some_iff.1 h.1).1
theorem Sta.blk_lt (h : Sta w0 U0 n E H RW F a w U) {b : Blk} (hb : b ∈ H) : b.g < w.heap.size := Blk.lt (h.blk b hb)

/-- A new block. -/
theorem Sta.alloc (h : Sta w0 U0 n E H RW F a w U) (cs : List Value) (t : Nat) (d : Nat) (hd : Nat.blt d n = true) :
    Sta w0 U0 n ((d, .pointer (some ⟨w.heap.size, 0, none⟩)) :: E) (⟨w.heap.size, t, cs⟩ :: H) RW F (a.put (some d) (.pointer (some ⟨w.heap.size, 0, none⟩))) (w.alloc (.cells cs.toArray t)) U := by
  have hs : Since w U (w.alloc (.cells cs.toArray t)) U := ⟨(Below.refl _ _).alloc (Nat.le_refl _) _, fun _ _ => rfl, fun b hb => h.ub b (by simp at hb; omega)⟩
  have h1 := (h.grow hs).put hd (.pointer (some ⟨w.heap.size, 0, none⟩))
  refine { h1 with blk := fun b hb => ?_, apt := ?_ }
  · rcases List.mem_cons.1 hb with rfl | hb
    · exact ⟨heap_alloc_new w _, h.ub _ (Nat.le_refl _), h.since.below.size⟩
    · exact h1.blk b hb
  · exact List.pairwise_cons.2 ⟨fun b hb => by have := h.blk_lt hb; simp only [ne_eq]; omega, h.apt⟩

theorem Since.draw {w : World} {U : Mk} (h : UB w U) (k : Nat) : Since w U { w with drawn := w.drawn + k } U := ⟨⟨rfl, rfl, rfl, Nat.le_refl _, fun _ _ => rfl⟩, fun _ _ => rfl, h⟩

end

/-! ### Cells in lists -/
/-- Cells off, off + 1, .. of a list are these. -/
inductive Nths (cs : List Value) : Nat → List Value → Prop where
  | nil {o : Nat} : Nths cs o []
  | cons {o : Nat} {v : Value} {vs : List Value} (h : nth cs o = some v) (t : Nths cs (o + 1) vs) : Nths cs o (v :: vs)
theorem Nths.get {cs : List Value} : ∀ {vs : List Value} {o : Nat}, Nths cs o vs → ∀ j u, vs[j]? = some u → cs[o + j]? = some u
  | _, _, .nil, j, u, h => by simp at h
  | _ :: vs, o, .cons h t, 0, u, hu => by simp at hu; subst hu; rw [← nth_eq]; exact h
  | _ :: vs, o, .cons h t, j + 1, u, hu => by
    have := t.get j u (by simpa using hu)
    rwa [show o + 1 + j = o + (j + 1) by omega] at this

/-- vs written over cs from place o on. -/
inductive Spl : List Value → Nat → List Value → List Value → Prop where
  | nil {cs : List Value} {o : Nat} (h : o ≤ cs.length) : Spl cs o [] cs
  | here {c v : Value} {cs vs cs' : List Value} (h : Spl cs 0 vs cs') : Spl (c :: cs) 0 (v :: vs) (v :: cs')
  | there {c : Value} {o : Nat} {cs vs cs' : List Value} (h : Spl cs o vs cs') : Spl (c :: cs) (o + 1) vs (c :: cs')
theorem Spl.eq {cs vs cs' : List Value} {o : Nat} (h : Spl cs o vs cs') : cs' = cs.take o ++ vs ++ cs.drop (o + vs.length) ∧ o + vs.length ≤ cs.length := by
  induction h with
  | nil h => simp; exact h
  | here h ih => obtain ⟨rfl, hl⟩ := ih; simp at hl ⊢; omega
  | there h ih =>
    obtain ⟨rfl, hl⟩ := ih
    constructor
    · simp [Nat.add_right_comm]
    · simp; omega

/-- The block g of H: cells vs are stored from off on. -/
inductive Upd (g o : Nat) (vs : List Value) : List Blk → List Blk → Prop where
  | head {t : Nat} {cs cs' : List Value} {H : List Blk} (h : Spl cs o vs cs') : Upd g o vs (⟨g, t, cs⟩ :: H) (⟨g, t, cs'⟩ :: H)
  | tail {b : Blk} {H H' : List Blk} (h : Upd g o vs H H') : Upd g o vs (b :: H) (b :: H')
theorem Upd.out {g o : Nat} {vs : List Value} {H H' : List Blk} (h : Upd g o vs H H') : ∃ t cs cs', ⟨g, t, cs⟩ ∈ H ∧ Spl cs o vs cs' ∧ H'.map (·.g) = H.map (·.g) ∧ ∀ b ∈ H', b = ⟨g, t, cs'⟩ ∨ b ∈ H := by
  induction h with
  | @head t cs cs' H h => exact ⟨t, cs, cs', .head _, h, by simp, fun b hb => by rcases List.mem_cons.1 hb with rfl | hb; exact .inl rfl; exact .inr (.tail _ hb)⟩
  | tail h ih =>
    obtain ⟨t, cs, cs', h1, h2, h3, h4⟩ := ih
    refine ⟨t, cs, cs', .tail _ h1, h2, by simp [h3], fun c hc => ?_⟩
    rcases List.mem_cons.1 hc with rfl | hc
    · exact .inr (.head _)
    · rcases h4 c hc with h | h
      · exact .inl h
      · exact .inr (.tail _ h)
theorem pair_map {H : List Blk} : (H.Pairwise fun b c => b.g ≠ c.g) ↔ (H.map (·.g)).Nodup := by
  rw [List.Nodup, List.pairwise_map]
theorem Upd.others {g o : Nat} {vs : List Value} {H H' : List Blk} (h : Upd g o vs H H') (hp : H.Pairwise fun b c => b.g ≠ c.g) : ∃ t cs cs', ⟨g, t, cs⟩ ∈ H ∧ Spl cs o vs cs' ∧ (H'.Pairwise fun b c => b.g ≠ c.g) ∧ ∀ b ∈ H', b = ⟨g, t, cs'⟩ ∨ (b ∈ H ∧ b.g ≠ g) := by
  induction h with
  | @head t cs cs' H h =>
    obtain ⟨h1, h2⟩ := List.pairwise_cons.1 hp
    refine ⟨t, cs, cs', .head _, h, List.pairwise_cons.2 ⟨fun b hb => h1 b hb, h2⟩, fun b hb => ?_⟩
    rcases List.mem_cons.1 hb with rfl | hb
    · exact .inl rfl
    · exact .inr ⟨.tail _ hb, fun e => h1 b hb e.symm⟩
  | @tail b0 H H' h ih =>
    obtain ⟨hp1, hp2⟩ := List.pairwise_cons.1 hp
    obtain ⟨t, cs, cs', h1, h2, h3, h4⟩ := ih hp2
    refine ⟨t, cs, cs', .tail _ h1, h2, ?_, fun c hc => ?_⟩
    · refine List.pairwise_cons.2 ⟨fun c hc => ?_, h3⟩
      rcases h4 c hc with rfl | h
      · exact hp1 ⟨g, t, cs⟩ h1
      · exact hp1 c h.1
    · rcases List.mem_cons.1 hc with rfl | hc
      · exact .inr ⟨.head _, hp1 _ h1⟩
      · rcases h4 c hc with h | h
        · exact .inl h
        · exact .inr ⟨.tail _ h.1, h.2⟩

section
variable {w0 : World} {U0 : Mk} {n : Nat} {E E' : List (Nat × Value)} {H H' : List Blk} {RW : List Row} {F G : Fact} {a : Act} {w w' : World} {U U' : Mk}

/-- A store into a block of the activation's own. -/
theorem Sta.store (h : Sta w0 U0 n E H RW F a w U) {g o : Nat} {vs : List Value} (hu : Upd g o vs H H') :
    ∃ t cs cs', w.heap[g]? = some (.cells cs.toArray t (0, 0)) ∧ Spl cs o vs cs' ∧ Sta w0 U0 n E H' RW F a (w.setRow g cs'.toArray) U := by
  obtain ⟨t, cs, cs', h1, h2, h3, h4⟩ := hu.others h.apt
  obtain ⟨k1, k2, k3⟩ := h.blk _ h1
  have hg : g < w.heap.size := h.blk_lt h1
  have hsz : (w.setRow g cs'.toArray).heap.size = w.heap.size := by simp [World.setRow]
  have hoth : ∀ b, b ≠ g → (w.setRow g cs'.toArray).heap[b]? = w.heap[b]? := fun b hb => setRow_other w g b _ hb
  refine ⟨t, cs, cs', k1, h2, { h with since := ⟨?_, h.since.old, fun b hb => h.ub b (by rw [hsz] at hb; exact hb)⟩, blk := fun b hb => ?_, apt := h3, row := fun r hr => ?_, fact := ?_ }⟩
  · refine h.since.below.trans ⟨rfl, rfl, rfl, by rw [hsz]; exact Nat.le_refl _, fun b hb => hoth b ?_⟩
    have : w0.heap.size ≤ g := k3
    omega
  · rcases h4 b hb with rfl | ⟨hb, hne⟩
    · exact ⟨setRow_heap w g _ _ t (0, 0) k1, k2, k3⟩
    · obtain ⟨j1, j2, j3⟩ := h.blk b hb
      exact ⟨by rw [hoth _ hne]; exact j1, j2, j3⟩
  · refine Row.ok_same (h.row r hr) fun g' hg' => ⟨hoth _ fun e => ?_, rfl⟩
    have := (Row.ok_lt (h.row r hr) hg').2.2
    subst e
    simp only at k2
    omega
  · refine h.mono w U _ U ⟨by rw [hsz]; exact Nat.le_refl _, fun _ => Nat.le_refl _, fun b j v hj hv => ?_⟩ h.fact
    have hne : b ≠ g := fun e => by subst e; simp only at k2; omega
    rw [← hv]
    simp only [World.cell?]
    rw [hoth b hne]

variable {P : Program} {K : Act → World → Prop} {Q : Exit → Act → World → Prop}

theorem wp_val {o : Oper} {v : Value} (hrun : (execOp a.eval o).run P w = .ok (.value v) w') (hk : K (a.put o.dst v) w') : o.wp P a w K Q := by
  unfold Oper.wp
  rw [hrun]
  exact hk
theorem wp_skp {o : Oper} (hrun : (execOp a.eval o).run P w = .ok .skip w') (hd : o.dst = none) (hk : K a w') : o.wp P a w K Q := by
  unfold Oper.wp
  rw [hrun]
  simp only [Oper.upon, hd, Act.put]
  exact hk

section
variable {d : Nat} {ty : Nat} {pos : String} {aft : Array Edge} {gd : Option (Nat × Bool)}

theorem r_val (h : Sta w0 U0 n E H RW F a w U) {op : Op} {v : Value} (hrun : (execOp a.eval ⟨some d, op, ty, pos, aft, gd⟩).run P w = .ok (.value v) w) (hd : Nat.blt d n = true)
    (k : ∀ a, Sta w0 U0 n ((d, v) :: E) H RW F a w U → K a w) : Oper.wp P ⟨some d, op, ty, pos, aft, gd⟩ a w K Q :=
  wp_val hrun (k _ (h.put hd v))

theorem q_move (h : Sta w0 U0 n E H RW F a w U) {x : Operand} {v : Value} (hx : ev E x = some v) {dst : Option Tmp} : (execOp a.eval ⟨dst, .move x, ty, pos, aft, gd⟩).run P w = .ok (.value (v)) w := by simp [execOp, h.eval hx]
theorem r_move (h : Sta w0 U0 n E H RW F a w U) {x : Operand} {v : Value} (hx : ev E x = some v) (hd : Nat.blt d n = true)
    (k : ∀ a, Sta w0 U0 n ((d, v) :: E) H RW F a w U → K a w) : Oper.wp P ⟨some d, .move x, ty, pos, aft, gd⟩ a w K Q :=
  r_val h (q_move h hx) hd k
theorem q_assign (h : Sta w0 U0 n E H RW F a w U) {x : Operand} {v : Value} (hx : ev E x = some v) {dst : Option Tmp} : (execOp a.eval ⟨dst, .assign x, ty, pos, aft, gd⟩).run P w = .ok (.value (v)) w := by simp [execOp, h.eval hx]
theorem r_assign (h : Sta w0 U0 n E H RW F a w U) {x : Operand} {v : Value} (hx : ev E x = some v) (hd : Nat.blt d n = true)
    (k : ∀ a, Sta w0 U0 n ((d, v) :: E) H RW F a w U → K a w) : Oper.wp P ⟨some d, .assign x, ty, pos, aft, gd⟩ a w K Q :=
  r_val h (q_assign h hx) hd k
theorem q_pick (h : Sta w0 U0 n E H RW F a w U) {c x y : Operand} {b : Bool} {v : Value} (hc : ev E c = some (.bool b)) (hx : (match b with | true => ev E x | false => ev E y) = some v) {dst : Option Tmp} : (execOp a.eval ⟨dst, .pick c x y, ty, pos, aft, gd⟩).run P w = .ok (.value (v)) w := by
  cases b with
  | true => simp [execOp, h.eval hc, h.eval hx, asBool]
  | false => simp [execOp, h.eval hc, h.eval hx, asBool]

theorem r_pick (h : Sta w0 U0 n E H RW F a w U) {c x y : Operand} {b : Bool} {v : Value} (hc : ev E c = some (.bool b)) (hx : (match b with | true => ev E x | false => ev E y) = some v) (hd : Nat.blt d n = true)
    (k : ∀ a, Sta w0 U0 n ((d, v) :: E) H RW F a w U → K a w) : Oper.wp P ⟨some d, .pick c x y, ty, pos, aft, gd⟩ a w K Q :=
  r_val h (q_pick h hc hx) hd k
/-- The zero value of a type, as cells. -/
def ZeroC (P : Program) (t : Nat) (cs : List Value) : Prop := ((P.info? t).bind (·.zero)).map (·.cells) = some cs.toArray
theorem r_alloc (h : Sta w0 U0 n E H RW F a w U) {t : Nat} {cs : List Value} (hz : ZeroC P t cs) (hd : Nat.blt d n = true)
    (k : ∀ a w' g, Sta w0 U0 n ((d, .pointer (some ⟨g, 0, none⟩)) :: E) (⟨g, t, cs⟩ :: H) RW F a w' U → K a w') : Oper.wp P ⟨some d, .alloc t, ty, pos, aft, gd⟩ a w K Q := by
  refine wp_val (v := .pointer (some ⟨w.heap.size, 0, none⟩)) (w' := w.alloc (.cells cs.toArray t)) ?_ (k _ _ _ (h.alloc cs t d hd))
  obtain ⟨z, hz1, hz2⟩ := Option.map_eq_some_iff.1 hz
  obtain ⟨i, hi, hzi⟩ := Option.bind_eq_some_iff.1 hz1
  simp [execOp, Instr.alloc, zeroValue, typeInfo, hi, hzi, newVar, newRow, hz2]
theorem r_box (h : Sta w0 U0 n E H RW F a w U) {t : Nat} {x : Operand} {v : Value} {cs : List Value} (hx : ev E x = some v) (hv : v.cells = cs.toArray) (hd : Nat.blt d n = true)
    (k : ∀ a w' g, Sta w0 U0 n ((d, .pointer (some ⟨g, 0, none⟩)) :: E) (⟨g, t, cs⟩ :: H) RW F a w' U → K a w') : Oper.wp P ⟨some d, .box t x, ty, pos, aft, gd⟩ a w K Q := by
  refine wp_val (v := .pointer (some ⟨w.heap.size, 0, none⟩)) (w' := w.alloc (.cells cs.toArray t)) ?_ (k _ _ _ (h.alloc cs t d hd))
  simp [execOp, Instr.box, newVar, newRow, h.eval hx, hv]

/-- A type of several cells. -/
def Agg (P : Program) (t : Nat) (k : Nat) : Prop := (P.underlying t).any (fun | .struct _ | .array _ _ => true | _ => false) = true ∧ (P.info? t).map (·.size) = some k
def Sca (P : Program) (t : Nat) : Prop := (P.underlying t).any (fun | .struct _ | .array _ _ => false | _ => true) = true ∧ (P.info? t).map (·.size) = some 1

theorem add_at (g o j : Nat) : (⟨g, o, none⟩ : Addr).add j = ⟨g, o + j, none⟩ := by unfold Addr.add; split <;> simp_all
theorem run_loadVar_agg {t : Nat} {k g o : Nat} (ha : Agg P t k) {vs : List Value} (hl : vs.length = k) (hc : ∀ j u, vs[j]? = some u → w.cell? ⟨g, o + j, none⟩ = some u) :
    (loadVar t ⟨g, o, none⟩).run P w = .ok (.agg vs.toArray) w := by
  obtain ⟨h1, h2⟩ := ha
  obtain ⟨i, hi, hk⟩ := Option.map_eq_some_iff.1 h2
  have hcells : (loadCells ⟨g, o, none⟩ k).run P w = .ok vs.toArray w := by
    rw [← hl]
    refine run_loadCells_list w ⟨g, o, none⟩ vs fun j u hj => ?_
    rw [add_at]
    exact hc j u hj
  have hagg : (isAgg t).run P w = .ok true w := by
    cases hu : P.underlying t with
    | none => simp [hu] at h1
    | some u => cases u <;> simp_all [isAgg, run_underlying]
  simp [loadVar, hagg, sizeOf, typeInfo, hi, hk, hcells]
theorem run_loadVar_sca {t : Nat} {g o : Nat} (ha : Sca P t) {v : Value} (hc : w.cell? ⟨g, o, none⟩ = some v) :
    (loadVar t ⟨g, o, none⟩).run P w = .ok v w := by
  obtain ⟨h1, h2⟩ := ha
  have hagg : (isAgg t).run P w = .ok false w := by
    cases hu : P.underlying t with
    | none => simp [hu] at h1
    | some u => cases u <;> simp_all [isAgg, run_underlying]
  simp [loadVar, hagg, hc]
theorem Sta.cell (h : Sta w0 U0 n E H RW F a w U) {g j : Nat} {t : Nat} {cs : List Value} {v : Value} (hb : ⟨g, t, cs⟩ ∈ H) (hv : cs[j]? = some v) : w.cell? ⟨g, j, none⟩ = some v := by
  rw [cell_of_row w g j cs.toArray t (0, 0) (h.blk _ hb).1]
  simpa using hv

theorem q_loada (h : Sta w0 U0 n E H RW F a w U) {t bt : Nat} {x : Operand} {g o k : Nat} {cs vs : List Value} (hx : ev E x = some (.pointer (some ⟨g, o, none⟩))) (ha : Agg P t k) (hb : ⟨g, bt, cs⟩ ∈ H) (hv : Nths cs o vs) (hl : vs.length = k) {dst : Option Tmp} : (execOp a.eval ⟨dst, .load t x, ty, pos, aft, gd⟩).run P w = .ok (.value (.agg vs.toArray)) w := by
  have := run_loadVar_agg (P := P) (w := w) (g := g) (o := o) ha hl fun j u hj => h.cell hb (hv.get j u hj)
  simp [execOp, Instr.loadAt, Instr.sureAddr, h.eval hx, this]
theorem r_loada (h : Sta w0 U0 n E H RW F a w U) {t bt : Nat} {x : Operand} {g o k : Nat} {cs vs : List Value} (hx : ev E x = some (.pointer (some ⟨g, o, none⟩))) (ha : Agg P t k) (hb : ⟨g, bt, cs⟩ ∈ H) (hv : Nths cs o vs) (hl : vs.length = k) (hd : Nat.blt d n = true)
    (kk : ∀ a, Sta w0 U0 n ((d, .agg vs.toArray) :: E) H RW F a w U → K a w) : Oper.wp P ⟨some d, .load t x, ty, pos, aft, gd⟩ a w K Q :=
  r_val h (q_loada h hx ha hb hv hl) hd kk
theorem q_loads (h : Sta w0 U0 n E H RW F a w U) {t bt : Nat} {x : Operand} {g o : Nat} {cs : List Value} {v : Value} (hx : ev E x = some (.pointer (some ⟨g, o, none⟩))) (ha : Sca P t) (hb : ⟨g, bt, cs⟩ ∈ H) (hv : nth cs o = some v) {dst : Option Tmp} : (execOp a.eval ⟨dst, .load t x, ty, pos, aft, gd⟩).run P w = .ok (.value (v)) w := by
  have := run_loadVar_sca (P := P) (w := w) (g := g) (o := o) ha (h.cell hb (by rw [← nth_eq]; exact hv))
  simp [execOp, Instr.loadAt, Instr.sureAddr, h.eval hx, this]
theorem r_loads (h : Sta w0 U0 n E H RW F a w U) {t bt : Nat} {x : Operand} {g o : Nat} {cs : List Value} {v : Value} (hx : ev E x = some (.pointer (some ⟨g, o, none⟩))) (ha : Sca P t) (hb : ⟨g, bt, cs⟩ ∈ H) (hv : nth cs o = some v) (hd : Nat.blt d n = true)
    (kk : ∀ a, Sta w0 U0 n ((d, v) :: E) H RW F a w U → K a w) : Oper.wp P ⟨some d, .load t x, ty, pos, aft, gd⟩ a w K Q :=
  r_val h (q_loads h hx ha hb hv) hd kk
/-- From settled memory. -/
theorem r_loada' (h : Sta w0 U0 n E H RW F a w U) {t : Nat} {x : Operand} {g o k : Nat} {vs : List Value} (hx : ev E x = some (.pointer (some ⟨g, o, none⟩))) (ha : Agg P t k) (hl : vs.length = k) (hc : ∀ j u, vs[j]? = some u → w.cell? ⟨g, o + j, none⟩ = some u) (hd : Nat.blt d n = true)
    (kk : ∀ a, Sta w0 U0 n ((d, .agg vs.toArray) :: E) H RW F a w U → K a w) : Oper.wp P ⟨some d, .load t x, ty, pos, aft, gd⟩ a w K Q := by
  refine r_val h ?_ hd kk
  have := run_loadVar_agg (P := P) (w := w) (g := g) (o := o) ha hl hc
  simp [execOp, Instr.loadAt, Instr.sureAddr, h.eval hx, this]
theorem r_loads' (h : Sta w0 U0 n E H RW F a w U) {t : Nat} {x : Operand} {g o : Nat} {v : Value} (hx : ev E x = some (.pointer (some ⟨g, o, none⟩))) (ha : Sca P t) (hc : w.cell? ⟨g, o, none⟩ = some v) (hd : Nat.blt d n = true)
    (kk : ∀ a, Sta w0 U0 n ((d, v) :: E) H RW F a w U → K a w) : Oper.wp P ⟨some d, .load t x, ty, pos, aft, gd⟩ a w K Q := by
  refine r_val h ?_ hd kk
  have := run_loadVar_sca (P := P) (w := w) (g := g) (o := o) ha hc
  simp [execOp, Instr.loadAt, Instr.sureAddr, h.eval hx, this]

def Sized (P : Program) (t : Nat) (k : Nat) : Prop := (P.info? t).map (·.size) = some k
theorem r_store (h : Sta w0 U0 n E H RW F a w U) {t : Nat} {x y : Operand} {g o : Nat} {v : Value} {vs : List Value} (hx : ev E x = some (.pointer (some ⟨g, o, none⟩))) (hy : ev E y = some v) (hv : v.cells = vs.toArray) (hs : Sized P t vs.length)
    (h1 : vs.all Value.oneCell' = true) (hu : Upd g o vs H H') (kk : ∀ w', Sta w0 U0 n E H' RW F a w' U → K a w') : Oper.wp P ⟨none, .store t x y, ty, pos, aft, gd⟩ a w K Q := by
  obtain ⟨bt, cs, cs', hg, hsp, hst⟩ := h.store hu
  obtain ⟨i, hi, hk⟩ := Option.map_eq_some_iff.1 hs
  obtain ⟨he, hle⟩ := hsp.eq
  have hrun := run_storeCells_at P g o bt vs 0 cs.toArray w hg (by simpa using hle) (by simpa using h1)
  simp only [Nat.add_zero, ← he] at hrun
  refine wp_skp (w' := w.setRow g cs'.toArray) ?_ rfl (kk _ hst)
  simp [execOp, Instr.storeAt, Instr.sureAddr, h.eval hx, h.eval hy, storeVar, hv, sizeOf, typeInfo, hi, hk, hrun]

/-- Field f of the struct type t lies at o and has k cells. -/
def FieldAt (P : Program) (t : Nat) (f o k : Nat) : Prop := ∃ fs fd, P.underlying t = some (.struct fs) ∧ fs[f]? = some fd ∧ fd.offset = o ∧ (P.info? fd.type).map (·.size) = some k ∧ 0 < k
theorem q_fieldAddr (h : Sta w0 U0 n E H RW F a w U) {t : Nat} {x : Operand} {g o f fo k : Nat} (hx : ev E x = some (.pointer (some ⟨g, o, none⟩))) (hf : FieldAt P t f fo k) {dst : Option Tmp} : (execOp a.eval ⟨dst, .fieldAddr t x f, ty, pos, aft, gd⟩).run P w = .ok (.value (.pointer (some ⟨g, o + fo, none⟩))) w := by
  obtain ⟨fs, fd, h1, h2, h3, h4, h5⟩ := hf
  obtain ⟨i, hi, hk⟩ := Option.map_eq_some_iff.1 h4
  have hne : ¬ i.size = 0 := by omega
  simp [execOp, Instr.fieldAt, run_underlying h1, h2, Instr.sureAddr, h.eval hx, fieldPlace, sizeOf, typeInfo, hi, hne, h3, add_at]
theorem r_fieldAddr (h : Sta w0 U0 n E H RW F a w U) {t : Nat} {x : Operand} {g o f fo k : Nat} (hx : ev E x = some (.pointer (some ⟨g, o, none⟩))) (hf : FieldAt P t f fo k) (hd : Nat.blt d n = true)
    (kk : ∀ a, Sta w0 U0 n ((d, .pointer (some ⟨g, o + fo, none⟩)) :: E) H RW F a w U → K a w) : Oper.wp P ⟨some d, .fieldAddr t x f, ty, pos, aft, gd⟩ a w K Q :=
  r_val h (q_fieldAddr h hx hf) hd kk
/-- Field f of the struct type t is one scalar cell at o. -/
def FieldSca (P : Program) (t : Nat) (f o : Nat) : Prop := ∃ fs fd, P.underlying t = some (.struct fs) ∧ fs[f]? = some fd ∧ fd.offset = o ∧ Sca P fd.type
def FieldAgg (P : Program) (t : Nat) (f o k : Nat) : Prop := ∃ fs fd, P.underlying t = some (.struct fs) ∧ fs[f]? = some fd ∧ fd.offset = o ∧ Agg P fd.type k
theorem run_isAgg_sca {t : Nat} (ha : Sca P t) : (isAgg t).run P w = .ok false w := by
  obtain ⟨h1, h2⟩ := ha
  cases hu : P.underlying t with
  | none => simp [hu] at h1
  | some u => cases u <;> simp_all [isAgg, run_underlying]
theorem run_isAgg_agg {t : Nat} {k : Nat} (ha : Agg P t k) : (isAgg t).run P w = .ok true w := by
  obtain ⟨h1, h2⟩ := ha
  cases hu : P.underlying t with
  | none => simp [hu] at h1
  | some u => cases u <;> simp_all [isAgg, run_underlying]
theorem q_fields (h : Sta w0 U0 n E H RW F a w U) {t : Nat} {x : Operand} {f o : Nat} {cs : List Value} {v : Value} (hx : ev E x = some (.agg cs.toArray)) (hf : FieldSca P t f o) (hv : nth cs o = some v) {dst : Option Tmp} : (execOp a.eval ⟨dst, .field t x f, ty, pos, aft, gd⟩).run P w = .ok (.value (v)) w := by
  obtain ⟨fs, fd, h1, h2, h3, h4⟩ := hf
  have hc : cs[fd.offset]? = some v := by rw [h3, ← nth_eq]; exact hv
  simp [execOp, Instr.field, run_underlying h1, h2, h.eval hx, part, run_isAgg_sca h4, asAgg, hc]
theorem r_fields (h : Sta w0 U0 n E H RW F a w U) {t : Nat} {x : Operand} {f o : Nat} {cs : List Value} {v : Value} (hx : ev E x = some (.agg cs.toArray)) (hf : FieldSca P t f o) (hv : nth cs o = some v) (hd : Nat.blt d n = true)
    (kk : ∀ a, Sta w0 U0 n ((d, v) :: E) H RW F a w U → K a w) : Oper.wp P ⟨some d, .field t x f, ty, pos, aft, gd⟩ a w K Q :=
  r_val h (q_fields h hx hf hv) hd kk
theorem q_fielda (h : Sta w0 U0 n E H RW F a w U) {t : Nat} {x : Operand} {f o k : Nat} {cs vs : List Value} (hx : ev E x = some (.agg cs.toArray)) (hf : FieldAgg P t f o k) (hv : Nths cs o vs) (hl : vs.length = k) {dst : Option Tmp} : (execOp a.eval ⟨dst, .field t x f, ty, pos, aft, gd⟩).run P w = .ok (.value (.agg vs.toArray)) w := by
  obtain ⟨fs, fd, h1, h2, h3, h4⟩ := hf
  obtain ⟨i, hi, hk⟩ := Option.map_eq_some_iff.1 h4.2
  have hc : (cs.drop fd.offset).take k = vs := by
    rw [h3]
    apply List.ext_getElem?
    intro j
    simp only [List.getElem?_take, List.getElem?_drop]
    rcases Nat.lt_or_ge j vs.length with hj | hj
    · rw [if_pos (by omega), List.getElem?_eq_getElem hj]
      exact hv.get j _ (List.getElem?_eq_getElem hj)
    · rw [if_neg (by omega), List.getElem?_eq_none hj]
  simp [execOp, Instr.field, run_underlying h1, h2, h.eval hx, part, run_isAgg_agg h4, asAgg, sizeOf, typeInfo, hi, hk, hc]

theorem r_fielda (h : Sta w0 U0 n E H RW F a w U) {t : Nat} {x : Operand} {f o k : Nat} {cs vs : List Value} (hx : ev E x = some (.agg cs.toArray)) (hf : FieldAgg P t f o k) (hv : Nths cs o vs) (hl : vs.length = k) (hd : Nat.blt d n = true)
    (kk : ∀ a, Sta w0 U0 n ((d, .agg vs.toArray) :: E) H RW F a w U → K a w) : Oper.wp P ⟨some d, .field t x f, ty, pos, aft, gd⟩ a w K Q :=
  r_val h (q_fielda h hx hf hv hl) hd kk
/-- What an operator on values comes to. -/
def bin : BinOp → Value → Value → Option Value
  | .add, .int k x, .int _ y => some (.int k (k.wrap (x + y)))
  | .sub, .int k x, .int _ y => some (.int k (k.wrap (x - y)))
  | .eql, .int _ x, .int _ y => some (.bool (x == y))
  | .neq, .int _ x, .int _ y => some (.bool (x != y))
  | .lss, .int _ x, .int _ y => some (.bool (decide (x < y)))
  | .leq, .int _ x, .int _ y => some (.bool (decide (x ≤ y)))
  | .gtr, .int _ x, .int _ y => some (.bool (decide (x > y)))
  | .geq, .int _ x, .int _ y => some (.bool (decide (x ≥ y)))
  | .eql, .string x, .string y => some (.bool (x.toList == y.toList))
  | .neq, .string x, .string y => some (.bool (!(x.toList == y.toList)))
  | _, _, _ => none
def sameKind : Value → Value → Bool
  | .int j _, .int k _ => j == k
  | .string _, .string _ => true
  | _, _ => false
theorem q_bin (h : Sta w0 U0 n E H RW F a w U) {op : BinOp} {t t' : Nat} {x y : Operand} {p q v : Value} (hx : ev E x = some p) (hy : ev E y = some q) (hk : sameKind p q = true) (hv : bin op p q = some v) {dst : Option Tmp} : (execOp a.eval ⟨dst, .binOp op t x y t', ty, pos, aft, gd⟩).run P w = .ok (.value (v)) w := by
  have hg : (eqGuard op t x y p q).run P w = .ok () w := by
    cases p <;> cases q <;> simp [sameKind] at hk <;> cases op <;> simp [eqGuard]
  have hb : (binOp op t p q).run P w = .ok v w := by
    cases p <;> cases q <;> simp [sameKind] at hk <;> cases op <;> simp [bin] at hv <;> subst hv <;> simp [binOp, Op.intArith, Op.intCmp, Op.stringOp, hk]
  simp only [execOp, h.eval hx, h.eval hy, Sem.run_bind, hg, Result.andThen_ok, hb, Sem.run_pure]
theorem r_bin (h : Sta w0 U0 n E H RW F a w U) {op : BinOp} {t t' : Nat} {x y : Operand} {p q v : Value} (hx : ev E x = some p) (hy : ev E y = some q) (hk : sameKind p q = true) (hv : bin op p q = some v) (hd : Nat.blt d n = true)
    (kk : ∀ a, Sta w0 U0 n ((d, v) :: E) H RW F a w U → K a w) : Oper.wp P ⟨some d, .binOp op t x y t', ty, pos, aft, gd⟩ a w K Q :=
  r_val h (q_bin h hx hy hk hv) hd kk
theorem q_not (h : Sta w0 U0 n E H RW F a w U) {t : Nat} {x : Operand} {b : Bool} (hx : ev E x = some (.bool b)) {dst : Option Tmp} : (execOp a.eval ⟨dst, .unOp .not t x, ty, pos, aft, gd⟩).run P w = .ok (.value (.bool (!b))) w := by
  simp [execOp, Op.unary, h.eval hx]
theorem r_not (h : Sta w0 U0 n E H RW F a w U) {t : Nat} {x : Operand} {b : Bool} (hx : ev E x = some (.bool b)) (hd : Nat.blt d n = true)
    (kk : ∀ a, Sta w0 U0 n ((d, .bool (!b)) :: E) H RW F a w U → K a w) : Oper.wp P ⟨some d, .unOp .not t x, ty, pos, aft, gd⟩ a w K Q :=
  r_val h (q_not h hx) hd kk
theorem q_neg (h : Sta w0 U0 n E H RW F a w U) {t : Nat} {x : Operand} {i : Int} (hx : ev E x = some (.int .i64 i)) {dst : Option Tmp} : (execOp a.eval ⟨dst, .unOp .neg t x, ty, pos, aft, gd⟩).run P w = .ok (.value (.int .i64 (IntKind.i64.wrap (0 - i)))) w := by
  simp [execOp, Op.unary, h.eval hx, Op.intArith]
theorem r_neg (h : Sta w0 U0 n E H RW F a w U) {t : Nat} {x : Operand} {i : Int} (hx : ev E x = some (.int .i64 i)) (hd : Nat.blt d n = true)
    (kk : ∀ a, Sta w0 U0 n ((d, .int .i64 (IntKind.i64.wrap (0 - i))) :: E) H RW F a w U → K a w) : Oper.wp P ⟨some d, .unOp .neg t x, ty, pos, aft, gd⟩ a w K Q :=
  r_val h (q_neg h hx) hd kk
theorem q_extract (h : Sta w0 U0 n E H RW F a w U) {x : Operand} {vs : List Value} {v : Value} {i : Nat} (hx : ev E x = some (.tuple vs.toArray)) (hv : nth vs i = some v) {dst : Option Tmp} : (execOp a.eval ⟨dst, .extract x i, ty, pos, aft, gd⟩).run P w = .ok (.value (v)) w := by
  have hc : vs[i]? = some v := by rw [← nth_eq]; exact hv
  simp [execOp, Instr.extract, h.eval hx, hc]
theorem r_extract (h : Sta w0 U0 n E H RW F a w U) {x : Operand} {vs : List Value} {v : Value} {i : Nat} (hx : ev E x = some (.tuple vs.toArray)) (hv : nth vs i = some v) (hd : Nat.blt d n = true)
    (kk : ∀ a, Sta w0 U0 n ((d, v) :: E) H RW F a w U → K a w) : Oper.wp P ⟨some d, .extract x i, ty, pos, aft, gd⟩ a w K Q :=
  r_val h (q_extract h hx hv) hd kk
theorem q_lensl (h : Sta w0 U0 n E H RW F a w U) {t e : Nat} {x : Operand} {A : Option Addr} {m c : Nat} (hx : ev E x = some (.slice A m c)) (ht : P.underlying t = some (.slice e)) {dst : Option Tmp} : (execOp a.eval ⟨dst, .call ⟨.builtin .len, #[x], #[t]⟩, ty, pos, aft, gd⟩).run P w = .ok (.value (.int .i64 (m : Int))) w := by
  simp [execOp, resolve, invoke, builtin, Builtin.len_, h.eval hx, run_underlying ht, goInt]
theorem r_lensl (h : Sta w0 U0 n E H RW F a w U) {t e : Nat} {x : Operand} {A : Option Addr} {m c : Nat} (hx : ev E x = some (.slice A m c)) (ht : P.underlying t = some (.slice e)) (hd : Nat.blt d n = true)
    (kk : ∀ a, Sta w0 U0 n ((d, .int .i64 (m : Int)) :: E) H RW F a w U → K a w) : Oper.wp P ⟨some d, .call ⟨.builtin .len, #[x], #[t]⟩, ty, pos, aft, gd⟩ a w K Q :=
  r_val h (q_lensl h hx ht) hd kk
theorem q_lenstr (h : Sta w0 U0 n E H RW F a w U) {t : Nat} {x : Operand} {s : ByteArray} (hx : ev E x = some (.string s)) (ht : P.underlying t = some .string) {dst : Option Tmp} : (execOp a.eval ⟨dst, .call ⟨.builtin .len, #[x], #[t]⟩, ty, pos, aft, gd⟩).run P w = .ok (.value (.int .i64 (s.size : Int))) w := by
  simp [execOp, resolve, invoke, builtin, Builtin.len_, h.eval hx, run_underlying ht, goInt]

theorem r_lenstr (h : Sta w0 U0 n E H RW F a w U) {t : Nat} {x : Operand} {s : ByteArray} (hx : ev E x = some (.string s)) (ht : P.underlying t = some .string) (hd : Nat.blt d n = true)
    (kk : ∀ a, Sta w0 U0 n ((d, .int .i64 (s.size : Int)) :: E) H RW F a w U → K a w) : Oper.wp P ⟨some d, .call ⟨.builtin .len, #[x], #[t]⟩, ty, pos, aft, gd⟩ a w K Q :=
  r_val h (q_lenstr h hx ht) hd kk
/-- An element's address. -/
theorem q_indexAddr (h : Sta w0 U0 n E H RW F a w U) {t e : Nat} {x y : Operand} {g o m c k : Nat} {i : Int} {ik : IntKind} (hx : ev E x = some (.slice (some ⟨g, o, none⟩) m c)) (hy : ev E y = some (.int ik i)) (ht : P.underlying t = some (.slice e)) (hs : Sized P e k) (h0 : 0 ≤ i) (h1 : i < m) {dst : Option Tmp} : (execOp a.eval ⟨dst, .indexAddr t x y, ty, pos, aft, gd⟩).run P w = .ok (.value (.pointer (some ⟨g, o + i.toNat * k, none⟩))) w := by
  obtain ⟨j, hj, hk⟩ := Option.map_eq_some_iff.1 hs
  simp [execOp, Instr.indexAt, h.eval hx, h.eval hy, run_underlying ht, asIntOf, sizeOf, typeInfo, hj, hk, h0, h1, add_at]

theorem r_indexAddr (h : Sta w0 U0 n E H RW F a w U) {t e : Nat} {x y : Operand} {g o m c k : Nat} {i : Int} {ik : IntKind} (hx : ev E x = some (.slice (some ⟨g, o, none⟩) m c)) (hy : ev E y = some (.int ik i)) (ht : P.underlying t = some (.slice e)) (hs : Sized P e k) (h0 : 0 ≤ i) (h1 : i < m) (hd : Nat.blt d n = true)
    (kk : ∀ a, Sta w0 U0 n ((d, .pointer (some ⟨g, o + i.toNat * k, none⟩)) :: E) H RW F a w U → K a w) : Oper.wp P ⟨some d, .indexAddr t x y, ty, pos, aft, gd⟩ a w K Q :=
  r_val h (q_indexAddr h hx hy ht hs h0 h1) hd kk
/-- A slice of a slice. -/
theorem q_slicehi (h : Sta w0 U0 n E H RW F a w U) {t e : Nat} {x y : Operand} {A : Option Addr} {m c : Nat} {i : Int} {ik : IntKind} (hx : ev E x = some (.slice A m c)) (hy : ev E y = some (.int ik i)) (ht : P.underlying t = some (.slice e)) {k : Nat} (hs : Sized P e k) (h0 : 0 ≤ i) (h1 : i ≤ c) {dst : Option Tmp} : (execOp a.eval ⟨dst, .slice t x none (some y) none, ty, pos, aft, gd⟩).run P w = .ok (.value (.slice (if c = 0 then A else A.map (·.add 0)) i.toNat c)) w := by
  obtain ⟨j, hj, hk⟩ := Option.map_eq_some_iff.1 hs
  simp [execOp, Instr.sliceAt, Instr.slice, Instr.sliceBounds, Instr.sliceBound, h.eval hx, h.eval hy, run_underlying ht, asIntOf, sizeOf, typeInfo, hj, h0, h1]
theorem r_slicehi (h : Sta w0 U0 n E H RW F a w U) {t e : Nat} {x y : Operand} {A : Option Addr} {m c : Nat} {i : Int} {ik : IntKind} (hx : ev E x = some (.slice A m c)) (hy : ev E y = some (.int ik i)) (ht : P.underlying t = some (.slice e)) {k : Nat} (hs : Sized P e k) (h0 : 0 ≤ i) (h1 : i ≤ c) (hd : Nat.blt d n = true)
    (kk : ∀ a, Sta w0 U0 n ((d, .slice (if c = 0 then A else A.map (·.add 0)) i.toNat c) :: E) H RW F a w U → K a w) : Oper.wp P ⟨some d, .slice t x none (some y) none, ty, pos, aft, gd⟩ a w K Q :=
  r_val h (q_slicehi h hx hy ht hs h0 h1) hd kk
theorem q_slicelo (h : Sta w0 U0 n E H RW F a w U) {t e : Nat} {x y : Operand} {A : Option Addr} {m c : Nat} {i : Int} {ik : IntKind} (hx : ev E x = some (.slice A m c)) (hy : ev E y = some (.int ik i)) (ht : P.underlying t = some (.slice e)) {k : Nat} (hs : Sized P e k) (h0 : 0 ≤ i) (h1 : i ≤ m) {dst : Option Tmp} : (execOp a.eval ⟨dst, .slice t x (some y) none none, ty, pos, aft, gd⟩).run P w = .ok (.value (.slice (if c = i.toNat then A else A.map (·.add (i.toNat * k))) (m - i.toNat) (c - i.toNat))) w := by
  obtain ⟨j, hj, hk⟩ := Option.map_eq_some_iff.1 hs
  simp [execOp, Instr.sliceAt, Instr.slice, Instr.sliceBounds, Instr.sliceBound, h.eval hx, h.eval hy, run_underlying ht, asIntOf, sizeOf, typeInfo, hj, h0, h1, hk]
theorem r_slicelo (h : Sta w0 U0 n E H RW F a w U) {t e : Nat} {x y : Operand} {A : Option Addr} {m c : Nat} {i : Int} {ik : IntKind} (hx : ev E x = some (.slice A m c)) (hy : ev E y = some (.int ik i)) (ht : P.underlying t = some (.slice e)) {k : Nat} (hs : Sized P e k) (h0 : 0 ≤ i) (h1 : i ≤ m) (hd : Nat.blt d n = true)
    (kk : ∀ a, Sta w0 U0 n ((d, .slice (if c = i.toNat then A else A.map (·.add (i.toNat * k))) (m - i.toNat) (c - i.toNat)) :: E) H RW F a w U → K a w) : Oper.wp P ⟨some d, .slice t x (some y) none none, ty, pos, aft, gd⟩ a w K Q :=
  r_val h (q_slicelo h hx hy ht hs h0 h1) hd kk
end
end
end Go.Proofs.YtjnjkbmegfkiiaaGreat
