/- The small logic's seventh part: strings. -/
import Derived.Test.YtjnjkbmegfkiiaaGreatX6
namespace Go.Proofs.YtjnjkbmegfkiiaaGreat
open Go.RowKit
section
variable {w0 : World} {U0 : Mk} {n : Nat} {E : List (Nat × Value)} {H : List Blk} {RW : List Row} {F : Fact} {a : Act} {w : World} {U : Mk}
variable {P : Program} {K : Act → World → Prop} {Q : Exit → Act → World → Prop}
variable {d : Nat} {ty : Nat} {pos : String} {aft : Array Edge} {gd : Option (Nat × Bool)}
/-- A byte of a string. -/
theorem r_index (h : Sta w0 U0 n E H RW F a w U) {t : Nat} {x y : Operand} {s : ByteArray} {i : Int} {ik : IntKind} (hx : ev E x = some (.string s)) (hy : ev E y = some (.int ik i)) (ht : P.underlying t = some .string) (h0 : 0 ≤ i) (h1 : i < s.size) (hd : Nat.blt d n = true)
    (kk : ∀ a (b : UInt8), s.data[i.toNat]? = some b → Sta w0 U0 n ((d, .int .u8 (b.toNat : Int)) :: E) H RW F a w U → K a w) : Oper.wp P ⟨some d, .index t x y, ty, pos, aft, gd⟩ a w K Q := by
  have hlt : i.toNat < s.size := by omega
  have hget : s[i.toNat]? = some s[i.toNat] := by simp [hlt]
  refine r_val h (v := .int .u8 ((s[i.toNat]'hlt).toNat : Int)) ?_ hd (fun a hst => kk a _ ?_ hst)
  · simp [execOp, Instr.index, h.eval hx, h.eval hy, run_underlying ht, asIntOf, h0, hget]
  · exact Array.getElem?_eq_getElem (by exact hlt)
/-- A piece of a string. -/
theorem r_slicestr (h : Sta w0 U0 n E H RW F a w U) {t : Nat} {x y z : Operand} {s : ByteArray} {i j : Int} {ik jk : IntKind} (hx : ev E x = some (.string s)) (hy : ev E y = some (.int ik i)) (hz : ev E z = some (.int jk j)) (ht : P.underlying t = some .string) (h0 : 0 ≤ i) (h1 : i ≤ j) (h2 : j ≤ s.size) (hd : Nat.blt d n = true)
    (kk : ∀ a (s' : ByteArray), (s'.size : Int) = j - i → Sta w0 U0 n ((d, .string s') :: E) H RW F a w U → K a w) : Oper.wp P ⟨some d, .slice t x (some y) (some z) none, ty, pos, aft, gd⟩ a w K Q := by
  refine r_val h (v := .string (s.extract i.toNat j.toNat)) ?_ hd (fun a hst => kk a _ ?_ hst)
  · have e1 : 0 ≤ j ∧ j ≤ s.size := ⟨by omega, h2⟩
    have e2 : 0 ≤ i ∧ i ≤ (j.toNat : Int) := ⟨h0, by omega⟩
    simp [execOp, Instr.sliceAt, Instr.slice, Instr.sliceBounds, Instr.sliceBound, h.eval hx, h.eval hy, h.eval hz, run_underlying ht, asIntOf, e1.1, e1.2, e2.1]
    intro hh
    omega
  · rw [ByteArray.size_extract]
    omega
theorem r_mul (h : Sta w0 U0 n E H RW F a w U) {t t' : Nat} {x y : Operand} {k : IntKind} {p q : Int} (hx : ev E x = some (.int k p)) (hy : ev E y = some (.int k q)) (hd : Nat.blt d n = true)
    (kk : ∀ a, Sta w0 U0 n ((d, .int k (k.wrap (p * q))) :: E) H RW F a w U → K a w) : Oper.wp P ⟨some d, .binOp .mul t x y t', ty, pos, aft, gd⟩ a w K Q := by
  refine r_val h ?_ hd kk
  simp [execOp, h.eval hx, h.eval hy, eqGuard, binOp, Op.intArith]
theorem r_conv (h : Sta w0 U0 n E H RW F a w U) {t t' : Nat} {x : Operand} {k k' : IntKind} {p : Int} (hx : ev E x = some (.int k p)) (h1 : P.underlying t = some (.int k)) (h2 : P.underlying t' = some (.int k')) (hd : Nat.blt d n = true)
    (kk : ∀ a, Sta w0 U0 n ((d, .int k' (k'.wrap p)) :: E) H RW F a w U → K a w) : Oper.wp P ⟨some d, .convert t t' x, ty, pos, aft, gd⟩ a w K Q := by
  refine r_val h ?_ hd kk
  simp [execOp, convert, h.eval hx, run_underlying h1, run_underlying h2, Conv.intToInt]
end

def isStr : Value → Bool
  | .string _ => true
  | _ => false
theorem strs_flat (w : World) (U : Mk) : ∀ (cs : List Value), cs.all isStr = true → ∃ ts, Flat kS cs ts w U ∧ ts.length = cs.length := by
  intro cs h
  refine ⟨cs.map fun v => match v with | .string s => s.toList | _ => [], ⟨by simp [kS], fun j t ht => ?_⟩, by simp⟩
  simp only [List.getElem?_map, Option.map_eq_some_iff] at ht
  obtain ⟨v, hv, rfl⟩ := ht
  have hj : j < cs.length := (List.getElem?_eq_some_iff.1 hv).1
  have hs := List.all_eq_true.1 h v (List.mem_of_getElem? hv)
  have hd : (cs.drop (j * kS.sz)).take kS.sz = [v] := by
    simp only [kS, Nat.mul_one]
    rw [List.drop_eq_getElem_cons hj]
    have : cs[j] = v := by rw [List.getElem?_eq_getElem hj] at hv; exact Option.some.inj hv
    simp [this]
  rw [hd]
  cases v <;> simp [isStr] at hs
  exact ⟨_, rfl, rfl⟩
theorem strs_sl {A : Option Addr} {k c : Nat} {cs : List Value} {w : World} {U : Mk} (hc : Cont (.slice A k c) cs w U) (h : cs.all isStr = true) (hl : cs.length = k) (hk : k ≤ c) (hb : k ≤ 1000000000 := by omega) : ∃ ts, Sl kS (.slice A k c) ts w U := by
  obtain ⟨ts, hf, hts⟩ := strs_flat w U cs h
  exact ⟨ts, Sl.of_flat hc hf (hts.trans hl) hk⟩
/-- Short texts that are not empty. -/
def kN : EK (List UInt8) := ⟨1, by omega, fun cs t _ _ => ∃ s : ByteArray, cs = [.string s] ∧ t = s.toList ∧ 1 ≤ s.size ∧ s.size ≤ 16, fun _ _ _ _ _ _ _ h => h, fun h => by obtain ⟨s, rfl, _⟩ := h; rfl⟩
def isStr1 : Value → Bool
  | .string s => Nat.ble 1 s.size && Nat.ble s.size 16
  | _ => false
theorem strs_flat1 (w : World) (U : Mk) : ∀ (cs : List Value), cs.all isStr1 = true → ∃ ts, Flat kN cs ts w U ∧ ts.length = cs.length := by
  intro cs h
  refine ⟨cs.map fun v => match v with | .string s => s.toList | _ => [], ⟨by simp [kN], fun j t ht => ?_⟩, by simp⟩
  simp only [List.getElem?_map, Option.map_eq_some_iff] at ht
  obtain ⟨v, hv, rfl⟩ := ht
  have hj : j < cs.length := (List.getElem?_eq_some_iff.1 hv).1
  have hs := List.all_eq_true.1 h v (List.mem_of_getElem? hv)
  have hd : (cs.drop (j * kN.sz)).take kN.sz = [v] := by
    simp only [kN, Nat.mul_one]
    rw [List.drop_eq_getElem_cons hj]
    have : cs[j] = v := by rw [List.getElem?_eq_getElem hj] at hv; exact Option.some.inj hv
    simp [this]
  rw [hd]
  cases v with
  | string s => simp [isStr1] at hs; exact ⟨_, rfl, rfl, hs.1, hs.2⟩
  | _ => simp [isStr1] at hs
theorem strs_sl1 {A : Option Addr} {k c : Nat} {cs : List Value} {w : World} {U : Mk} (hc : Cont (.slice A k c) cs w U) (h : cs.all isStr1 = true) (hl : cs.length = k) (hk : k ≤ c) (hb : k ≤ 1000000000 := by omega) : ∃ ts, Sl kN (.slice A k c) ts w U := by
  obtain ⟨ts, hf, hts⟩ := strs_flat1 w U cs h
  exact ⟨ts, Sl.of_flat hc hf (hts.trans hl) hk⟩
/-- One element of a slice that reads as a list. -/
theorem Sl.at {T : Type} {K : EK T} {A : Option Addr} {k c : Nat} {ts : List T} {w : World} {U : Mk} (h : Sl K (.slice A k c) ts w U) : ts.length = k ∧ (k ≤ c ∧ k ≤ 1000000000000) ∧ ∀ j, j < k → ∃ g o cs t, A = some ⟨g, o, none⟩ ∧ ts[j]? = some t ∧ cs.length = K.sz ∧ K.R cs t w U ∧ ∀ q u, cs[q]? = some u → o + j * K.sz + q < U g ∧ w.cell? ⟨g, o + j * K.sz + q, none⟩ = some u := by
  obtain ⟨A', c', hv, hc, h⟩ := h
  simp only [Value.slice.injEq] at hv
  obtain ⟨rfl, rfl, rfl⟩ := hv
  refine ⟨rfl, hc, fun j hj => ?_⟩
  obtain ⟨cs, ⟨g, o, hA, hl, hcell⟩, hR⟩ := h j _ (List.getElem?_eq_getElem hj)
  exact ⟨g, o, cs, _, hA, List.getElem?_eq_getElem hj, hl, hR, hcell⟩
theorem cf_snoc {T : Type} {K : EK T} {v : Value} {xs c : List Value} {ts : List T} {w : World} {U : Mk} (hc : Cont v (xs ++ c) w U) (hf : Flat K xs ts w U) (t : T) (hR : K.R c t w U) : Cont v (xs ++ c) w U ∧ Flat K (xs ++ c) (ts ++ [t]) w U := ⟨hc, hf.snoc hR⟩
/-- A token, of whatever kind. -/
def kK : EK Unit := ⟨5, by omega, fun cs _ _ _ => ∃ (k m x y : Int) (s : ByteArray), cs = [.int .i64 k, .string s, .int .i64 m, .int .i64 x, .int .i64 y], fun _ _ _ _ _ _ _ h => h, fun h => by obtain ⟨k, m, x, y, s, rfl⟩ := h; rfl⟩
theorem toks_of_sl {A : Option Addr} {n c : Nat} {ts : List Unit} {w : World} {U : Mk} (h : Sl kK (.slice A n c) ts w U) : Toks A n w U := by
  intro j hj
  obtain ⟨_, _, hat⟩ := h.at
  obtain ⟨g, o, cs, t, hA, _, hl, ⟨k, m, x, y, s, rfl⟩, hc⟩ := hat j hj
  exact ⟨k, m, x, y, s, g, o, hA, rfl, hc⟩
theorem Toks.none_ (w : World) (U : Mk) : Toks none 0 w U := fun j hj => absurd hj (Nat.not_lt_zero j)
/-! Rules for what a test says, by short names. -/
section
variable {α : Type} {a b : α} {p q : Prop} {x y : Int} {c : Bool}
theorem n1 [BEq α] [LawfulBEq α] : (a == b) = true ↔ a = b := beq_iff_eq
theorem n2 [BEq α] [LawfulBEq α] : (a == b) = false ↔ a ≠ b := beq_eq_false_iff_ne
theorem n3 [BEq α] [LawfulBEq α] : (a != b) = true ↔ a ≠ b := bne_iff_ne
theorem n4 : (a ≠ b) = ¬ (a = b) := rfl
theorem n5 [Decidable p] : (decide p = true) = p := decide_eq_true_eq
theorem n6 [Decidable p] : decide p = false ↔ ¬ p := decide_eq_false_iff_not
theorem n7 : (x > y) = (y < x) := rfl
theorem n8 : (x ≥ y) = (y ≤ x) := rfl
theorem n9 : ((!c) = true) = (c = false) := by cases c <;> simp
theorem na : ((!c) = false) = (c = true) := by cases c <;> simp
theorem nb [BEq α] [LawfulBEq α] : (a != b) = false ↔ a = b := bne_eq_false_iff_eq
end
end Go.Proofs.YtjnjkbmegfkiiaaGreat
