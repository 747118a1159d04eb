/- The program's own scanner: the text that the law wakes with. -/
import Derived.Test.YtjnjkbmegfkiiaaGreatR12
namespace Go.Proofs.YtjnjkbmegfkiiaaGreat
open Go.RowKit
set_option maxRecDepth 10000
set_option linter.unusedVariables false
set_option linter.unusedSimpArgs false
attribute [local irreducible] Oper.wp Code.wp wpList wpAny wpOp Calls CallsS
/-- The text, its tokens: where they begin, their kinds, their texts. -/
def wk : ByteArray := { data := #[100, 97, 116, 97, 32, 78, 32, 61, 32, 90, 32, 124, 32, 83, 32, 78] }
theorem wk_list : wk.toList = [100, 97, 116, 97, 32, 78, 32, 61, 32, 90, 32, 124, 32, 83, 32, 78] := ByteArray.toList_mk _
theorem wk_size : wk.size = 16 := rfl
def tokP : Nat → Int
  | 0 => 0 | 1 => 5 | 2 => 7 | 3 => 9 | 4 => 11 | 5 => 13 | 6 => 15 | _ => 16
def tokK : Nat → Int
  | 0 => 5 | 2 => 6 | 4 => 6 | _ => 3
def tokT : Nat → List UInt8
  | 0 => [100, 97, 116, 97] | 1 => [78] | 2 => [61] | 3 => [90] | 4 => [124] | 5 => [83] | _ => [78]
/-- A token: its kind, its text. -/
def kTk : EK (Int × List UInt8) := ⟨5, by omega, fun cs t _ _ => ∃ (m x y : Int) (s : ByteArray), cs = [.int .i64 t.1, .string s, .int .i64 m, .int .i64 x, .int .i64 y] ∧ s.toList = t.2, fun _ _ _ _ _ _ _ h => h, fun h => by obtain ⟨m, x, y, s, rfl, _⟩ := h; rfl⟩
def toks : List (Int × List UInt8) := [(1, []), (5, [100, 97, 116, 97]), (3, [78]), (6, [61]), (3, [90]), (6, [124]), (3, [83]), (3, [78])]
def tokN (i : Nat) : Nat := if i = 0 then 0 else i + 1
theorem seven {i : Nat} (h : i < 7) : i = 0 ∨ i = 1 ∨ i = 2 ∨ i = 3 ∨ i = 4 ∨ i = 5 ∨ i = 6 := by omega
theorem tok_bd (i : Nat) (h : i ≤ 7) : 0 ≤ tokP i ∧ tokP i ≤ 16 ∧ (tokP i < 16 → i < 7) ∧ (i < 7 → tokP i < 16) ∧ (tokP i = 0 → i = 0) ∧ (1 ≤ i → 1 ≤ tokP i) := by
  have : i < 7 ∨ i = 7 := by omega
  rcases this with h | rfl
  · rcases seven h with rfl | rfl | rfl | rfl | rfl | rfl | rfl <;> decide
  · decide
theorem tok_len (i : Nat) (h : i < 7) : (tokT i).length = (if i = 0 then 4 else 1) ∧ tokP i + (tokT i).length ≤ tokP (i + 1) := by
  rcases seven h with rfl | rfl | rfl | rfl | rfl | rfl | rfl <;> decide
theorem toks_next (i : Nat) (h : i < 7) (h1 : 1 ≤ i) : toks.take (tokN (i + 1)) = toks.take (tokN i) ++ [(tokK i, tokT i)] ∧ tokN (i + 1) = tokN i + 1 := by
  rcases seven h with rfl | rfl | rfl | rfl | rfl | rfl | rfl <;> first | omega | decide
section
variable {g : Nat} {F : Fact} {src : ByteArray} {p ln st : Int} {T : Option Addr} {l c : Nat}
theorem token_i (i : Nat) (hi : i < 7) (hsrc : src = wk) (hp : p = tokP i) : MethC Tryz.prog 48 [.pointer (some ⟨g, 0, none⟩)] ⟨g, 101, [.string src, .int .i64 p, .int .i64 ln, .int .i64 st, .slice T l c]⟩ F (fun v b' => (∃ t : ByteArray, v = .tuple #[.agg #[.int .i64 (tokK i), .string t, .int .i64 0, .int .i64 0, .int .i64 0], .bool true] ∧ t.toList = tokT i) ∧ b' = ⟨g, 101, [.string src, .int .i64 p, .int .i64 ln, .int .i64 st, .slice T l c]⟩) := by
  subst hsrc
  subst hp
  have word : ∀ (q : Int) (kd : Int) (tx : List UInt8), tokP i < q → q ≤ 16 → (∀ r : Int, tokP i ≤ r → r < q → ∃ b : UInt8, wk.toList[r.toNat]? = some b ∧ ((97 ≤ (b.toNat : Int) ∧ (b.toNat : Int) ≤ 122) ∨ (65 ≤ (b.toNat : Int) ∧ (b.toNat : Int) ≤ 90))) → (q = wk.size ∨ wk.toList[q.toNat]? = some 32) → (wk.extract (tokP i).toNat q.toNat).toList = tx → (tx = [100, 97, 116, 97] ∧ kd = 5 ∨ ∃ c : UInt8, tx = [c] ∧ 65 ≤ (c.toNat : Int) ∧ (c.toNat : Int) ≤ 90 ∧ kd = 3) → kd = tokK i → tx = tokT i → MethC Tryz.prog 48 [.pointer (some ⟨g, 0, none⟩)] ⟨g, 101, [.string wk, .int .i64 (tokP i), .int .i64 ln, .int .i64 st, .slice T l c]⟩ F (fun v b' => (∃ t : ByteArray, v = .tuple #[.agg #[.int .i64 (tokK i), .string t, .int .i64 0, .int .i64 0, .int .i64 0], .bool true] ∧ t.toList = tokT i) ∧ b' = ⟨g, 101, [.string wk, .int .i64 (tokP i), .int .i64 ln, .int .i64 st, .slice T l c]⟩) := by
    intro q kd tx h1 h2 h3 h4 h5 h6 h7 h8
    rw [← h7, ← h8]
    exact tokword_m (tok_bd i (by omega)).1 (by omega) (by rw [wk_size]; exact h2) (by rw [wk_size]; omega) h3 h4 h1 h5 (by rw [h5]; exact h6)
  have one : ∀ (z : UInt8), wk.toList[(tokP i).toNat]? = some z → 65 ≤ (z.toNat : Int) → (z.toNat : Int) ≤ 90 → tokP i + 1 ≤ 16 → (tokP i + 1 = wk.size ∨ wk.toList[(tokP i + 1).toNat]? = some 32) → (wk.extract (tokP i).toNat (tokP i + 1).toNat).toList = [z] → 3 = tokK i → [z] = tokT i → MethC Tryz.prog 48 [.pointer (some ⟨g, 0, none⟩)] ⟨g, 101, [.string wk, .int .i64 (tokP i), .int .i64 ln, .int .i64 st, .slice T l c]⟩ F (fun v b' => (∃ t : ByteArray, v = .tuple #[.agg #[.int .i64 (tokK i), .string t, .int .i64 0, .int .i64 0, .int .i64 0], .bool true] ∧ t.toList = tokT i) ∧ b' = ⟨g, 101, [.string wk, .int .i64 (tokP i), .int .i64 ln, .int .i64 st, .slice T l c]⟩) := fun z h1 h2 h3 h4 h5 h6 h7 h8 =>
    word (tokP i + 1) 3 [z] (by omega) h4 (fun r hr0 hr1 => ⟨z, by rw [show r = tokP i by omega]; exact h1, .inr ⟨h2, h3⟩⟩) h5 h6 (.inr ⟨z, rfl, h2, h3, rfl⟩) h7 h8
  rcases seven hi with rfl | rfl | rfl | rfl | rfl | rfl | rfl
  · refine word 4 5 [100, 97, 116, 97] (by decide) (by decide) (fun r h0 h1 => ?_) (.inr (by rw [wk_list]; rfl)) (by rw [toList_extract, wk_list]; rfl) (.inl ⟨rfl, rfl⟩) rfl rfl
    have h0 : (0 : Int) ≤ r := h0
    have : r = 0 ∨ r = 1 ∨ r = 2 ∨ r = 3 := by omega
    rw [wk_list]
    rcases this with rfl | rfl | rfl | rfl
    · exact ⟨100, rfl, by decide⟩
    · exact ⟨97, rfl, by decide⟩
    · exact ⟨116, rfl, by decide⟩
    · exact ⟨97, rfl, by decide⟩
  · exact one 78 (by rw [wk_list]; rfl) (by decide) (by decide) (by decide) (.inr (by rw [wk_list]; rfl)) (by rw [toList_extract, wk_list]; rfl) rfl rfl
  · exact toksym_m (b := 61) (rest := [90, 32, 124, 32, 83, 32, 78]) (by decide) (by rw [wk_size]; decide) (by rw [wk_list]; rfl) (.inl rfl)
  · exact one 90 (by rw [wk_list]; rfl) (by decide) (by decide) (by decide) (.inr (by rw [wk_list]; rfl)) (by rw [toList_extract, wk_list]; rfl) rfl rfl
  · exact toksym_m (b := 124) (rest := [83, 32, 78]) (by decide) (by rw [wk_size]; decide) (by rw [wk_list]; rfl) (.inr rfl)
  · exact one 83 (by rw [wk_list]; rfl) (by decide) (by decide) (by decide) (.inr (by rw [wk_list]; rfl)) (by rw [toList_extract, wk_list]; rfl) rfl rfl
  · exact one 78 (by rw [wk_list]; rfl) (by decide) (by decide) (by decide) (.inl rfl) (by rw [toList_extract, wk_list]; rfl) rfl rfl
theorem skip_i (i : Nat) (hi : i < 7) (hsrc : src = wk) (hp : p = tokP i + (tokT i).length) : MethC Tryz.prog 47 [.pointer (some ⟨g, 0, none⟩)] ⟨g, 101, [.string src, .int .i64 p, .int .i64 ln, .int .i64 st, .slice T l c]⟩ F (fun v b' => v = .tuple #[] ∧ b' = ⟨g, 101, [.string src, .int .i64 (tokP (i + 1)), .int .i64 ln, .int .i64 st, .slice T l c]⟩) := by
  subst hsrc
  subst hp
  have go : ∀ b : UInt8, tokP i + (tokT i).length ≤ tokP (i + 1) → (∀ r : Int, tokP i + (tokT i).length ≤ r → r < tokP (i + 1) → wk.toList[r.toNat]? = some 32) → (tokP (i + 1) = wk.size ∨ (wk.toList[(tokP (i + 1)).toNat]? = some b ∧ 33 ≤ (b.toNat : Int) ∧ (b.toNat : Int) ≠ 45)) → MethC Tryz.prog 47 [.pointer (some ⟨g, 0, none⟩)] ⟨g, 101, [.string wk, .int .i64 (tokP i + (tokT i).length), .int .i64 ln, .int .i64 st, .slice T l c]⟩ F (fun v b' => v = .tuple #[] ∧ b' = ⟨g, 101, [.string wk, .int .i64 (tokP (i + 1)), .int .i64 ln, .int .i64 st, .slice T l c]⟩) := fun b h1 h2 h3 =>
    skip_m (by have := (tok_bd i (by omega)).1; omega) h1 (by have := (tok_bd (i + 1) (by omega)).2.1; rw [wk_size]; exact this) (by rw [wk_size]; decide) h2 (h3.imp id (fun h => ⟨b, h⟩))
  have one : ∀ z : Int, (∀ r : Int, z ≤ r → r < z + 1 → r = z) := fun z r h1 h2 => by omega
  rcases seven hi with rfl | rfl | rfl | rfl | rfl | rfl | rfl
  · exact go 78 (by decide) (fun r h1 h2 => by rw [one 4 r h1 h2, wk_list]; rfl) (.inr ⟨by rw [wk_list]; rfl, by decide, by decide⟩)
  · exact go 61 (by decide) (fun r h1 h2 => by rw [one 6 r h1 h2, wk_list]; rfl) (.inr ⟨by rw [wk_list]; rfl, by decide, by decide⟩)
  · exact go 90 (by decide) (fun r h1 h2 => by rw [one 8 r h1 h2, wk_list]; rfl) (.inr ⟨by rw [wk_list]; rfl, by decide, by decide⟩)
  · exact go 124 (by decide) (fun r h1 h2 => by rw [one 10 r h1 h2, wk_list]; rfl) (.inr ⟨by rw [wk_list]; rfl, by decide, by decide⟩)
  · exact go 83 (by decide) (fun r h1 h2 => by rw [one 12 r h1 h2, wk_list]; rfl) (.inr ⟨by rw [wk_list]; rfl, by decide, by decide⟩)
  · exact go 78 (by decide) (fun r h1 h2 => by rw [one 14 r h1 h2, wk_list]; rfl) (.inr ⟨by rw [wk_list]; rfl, by decide, by decide⟩)
  · exact go 0 (by decide) (fun r h1 h2 => absurd h2 (by have : (16 : Int) ≤ r := h1; have h3 : tokP (6 + 1) = 16 := rfl; omega)) (.inl rfl)
theorem skip_0 (hsrc : src = wk) (hp : p = 0) : MethC Tryz.prog 47 [.pointer (some ⟨g, 0, none⟩)] ⟨g, 101, [.string src, .int .i64 p, .int .i64 ln, .int .i64 st, .slice T l c]⟩ F (fun v b' => v = .tuple #[] ∧ b' = ⟨g, 101, [.string src, .int .i64 0, .int .i64 ln, .int .i64 st, .slice T l c]⟩) := by
  subst hsrc
  subst hp
  exact skip_m (q := 0) (by decide) (by decide) (by rw [wk_size]; decide) (by rw [wk_size]; decide) (fun r h1 h2 => by omega) (.inr ⟨100, by rw [wk_list]; rfl, by decide, by decide⟩)
end

theorem toks_len (i : Nat) (h : i ≤ 7) : (toks.take (tokN i)).length = tokN i := by
  have : i < 7 ∨ i = 7 := by omega
  rcases this with h | rfl
  · rcases seven h with rfl | rfl | rfl | rfl | rfl | rfl | rfl <;> decide
  · decide
theorem tokN_le (i : Nat) (h : i ≤ 7) : tokN i ≤ 8 := by unfold tokN; split <;> omega
def InvSc (w0 : World) (U0 : Mk) (g1 g2 : Nat) (mz : Nat) (a : Act) (w : World) : Prop :=
  ∃ (U : Mk) (i : Nat) (A : Option Addr) (cc : Nat) (xs : List Value), Sta w0 U0 84 [(0, .string wk), (3, .pointer (some ⟨g1, 0, none⟩)), (4, .pointer (some ⟨g2, 0, none⟩))] [⟨g2, 101, [.string wk, .int .i64 (tokP i), .int .i64 1, .int .i64 0, .slice A (tokN i) cc]⟩, ⟨g1, 36, [.int .i64 0, .int .i64 0, .int .i64 0]⟩] [⟨.slice A (tokN i) cc, 50, 5, tokN i⟩] (fun w U => Cont (.slice A (tokN i) cc) xs w U ∧ Flat kTk xs (toks.take (tokN i)) w U) a w U ∧ i ≤ 7 ∧ mz = 7 - i
/-- Within a round: n tokens lie there, the next is in its variable. -/
def MidSc (w0 : World) (U0 : Mk) (g1 g2 g3 : Nat) (i : Nat) (tx : ByteArray) (x y : Int) (n : Nat) (ts : List (Int × List UInt8)) (a : Act) (w : World) : Prop :=
  ∃ (U : Mk) (A : Option Addr) (cc : Nat) (xs : List Value), Sta w0 U0 84 [(0, .string wk), (3, .pointer (some ⟨g1, 0, none⟩)), (4, .pointer (some ⟨g2, 0, none⟩)), (5, .pointer (some ⟨g3, 0, none⟩))] [⟨g3, 50, [.int .i64 (tokK i), .string tx, .int .i64 0, .int .i64 x, .int .i64 y]⟩, ⟨g2, 101, [.string wk, .int .i64 (tokP i), .int .i64 1, .int .i64 0, .slice A n cc]⟩, ⟨g1, 36, [.int .i64 0, .int .i64 0, .int .i64 0]⟩] [⟨.slice A n cc, 50, 5, n⟩] (fun w U => Cont (.slice A n cc) xs w U ∧ Flat kTk xs ts w U) a w U ∧ xs.length = n * 5 ∧ ts.length = n
def MidA (w0 : World) (U0 : Mk) (g1 g2 g3 : Nat) (i : Nat) (tx : ByteArray) (x y : Int) (a : Act) (w : World) : Prop :=
  ∃ n ts, n + 1 = tokN (i + 1) ∧ ts ++ [(tokK i, tokT i)] = toks.take (tokN (i + 1)) ∧ MidSc w0 U0 g1 g2 g3 i tx x y n ts a w

theorem pscan_c {w0 : World} {U0 : Mk} :
    CallsS Tryz.prog 30 [.string wk] w0 U0 (fun v w' U' => ∃ (A : Option Addr) (c : Nat), v = .tuple #[.slice A 9 c, .agg #[.int .i64 0, .int .i64 0, .int .i64 0]] ∧ Sl kTk (.slice A 9 c) (toks ++ [(0, [])]) w' U') := by
  refine x_enter (F := fun _ _ => True) (n := 84) Tryz.func30 rfl rfl (by simp) (.cons (d := 0) rfl (.nil)) (Mono.true_) (trivial) ?_
  intro a hst
  refine wp_seq ?_
  refine wp_region_lit ?_
  refine l_op rfl (r_assign hst rfl rfl ?_)
  clear hst; intro a hst
  refine l_op rfl (r_alloc hst Tz36 rfl ?_)
  clear hst; intro a w g1 hst
  have hsz := wk_size
  refine wpList_nil ?_
  refine then_n ?_
  refine wp_seq ?_
  refine wp_seq ?_
  refine wp_region_lit ?_
  refine l_op rfl (r_move hst rfl rfl ?_)
  clear hst; intro a hst
  refine l_op rfl (r_lenstr hst rfl Tu9 rfl ?_)
  clear hst; intro a hst
  refine l_op rfl (r_bin hst rfl rfl rfl rfl rfl ?_)
  clear hst; intro a hst
  refine wpList_nil ?_
  refine then_n ?_
  refine x_cond hst rfl (fun hc1 => ?_) (fun hc1 => ?_)
  · try simp only [n1, n2, n3, n4, n5, n6, n7, n8, n9, na, nb] at hc1
    refine wp_seq ?_
    omega
  try simp only [n1, n2, n3, n4, n5, n6, n7, n8, n9, na, nb] at hc1
  refine wp_skip ?_
  refine then_n ?_
  refine wp_seq ?_
  refine wp_region_lit ?_
  refine l_op rfl (r_move hst rfl rfl ?_)
  clear hst; intro a hst
  refine l_op rfl (r_build (ps := [(0, (Operand.tmp 11)), (2, (Operand.const (Value.int IntKind.i64 1)))]) hst Tso101 Tz101 (.cons Tf101_0 rfl rfl (.here (.nil (Nat.zero_le _))) (.cons Tf101_2 rfl rfl (.there (.there (.here (.nil (Nat.zero_le _))))) (.nil))) rfl ?_)
  clear hst; intro a hst
  refine l_op rfl (r_box hst rfl rfl rfl ?_)
  clear hst; intro a w g2 hst
  refine l_op rfl (r_assign hst rfl rfl ?_)
  clear hst; intro a hst
  refine wpList_nil ?_
  refine then_n ?_
  refine wp_seq ?_
  refine wp_seq ?_
  refine wp_region_lit ?_
  refine l_op rfl (r_move hst rfl rfl ?_)
  clear hst; intro a hst
  refine l_op rfl (r_callm0 (H1 := []) (xs := [(Operand.tmp 14)]) hst rfl rfl Ten47 (skip_0 rfl rfl) rfl ?_)
  clear hst; rintro a _ _ w U ⟨rfl, rfl⟩ hst
  simp only [List.cons_append, List.nil_append] at hst
  refine wpList_nil ?_
  refine then_n ?_
  refine wp_block ?_
  have hst := (((hst.keep (ds := [0, 3, 4]) (.cons rfl (.cons rfl (.cons rfl (.nil))))).drop (.cons_cons _ (.cons_cons _ (.slnil))))).row_nil 50 (sz := 5) (by decide)
  have hst := hst.newFact (G := fun w U => Cont (.slice none 0 0) [] w U ∧ Flat kTk [] [] w U) (Mono.and (Cont.mono _ _) (Flat.mono kTk _ _)) ⟨Cont.nil _ _ _, Flat.nil _ _ _⟩
  refine wp_loop_ghost (InvSc w0 U0 g1 g2) 7 ⟨_, 0, none, 0, [], hst, by omega, rfl⟩ ?_
  clear hst
  rintro mz a w ⟨U, i, A, cc, xs, hst, hi7, rfl⟩
  obtain ⟨hb0, hb1, hbt, hbt2, hb2, hb3⟩ := tok_bd i hi7
  have hxl : xs.length = tokN i * 5 := by have := hst.fact.2.1; rw [toks_len i hi7] at this; exact this
  have hnl := tokN_le i hi7
  refine wp_seq ?_
  refine wp_seq ?_
  refine wp_region_lit ?_
  refine l_op rfl (r_move hst rfl rfl ?_)
  clear hst; intro a hst
  refine l_op rfl (r_nilCheck hst rfl rfl ?_)
  clear hst; intro a hst
  refine l_op rfl (r_fieldAddr hst rfl Tf101_1 rfl ?_)
  clear hst; intro a hst
  refine l_op rfl (r_loads hst rfl Ts3 (.head _) rfl rfl ?_)
  clear hst; intro a hst
  refine l_op rfl (r_move hst rfl rfl ?_)
  clear hst; intro a hst
  refine l_op rfl (r_lenstr hst rfl Tu9 rfl ?_)
  clear hst; intro a hst
  refine l_op rfl (r_bin hst rfl rfl rfl rfl rfl ?_)
  clear hst; intro a hst
  refine wpList_nil ?_
  refine then_n ?_
  refine x_cond hst rfl (fun hc2 => ?_) (fun hc2 => ?_)
  · try simp only [n1, n2, n3, n4, n5, n6, n7, n8, n9, na, nb] at hc2
    have hi : i < 7 := hbt (by omega)
    refine wp_skip ?_
    refine then_n ?_
    refine wp_seq ?_
    refine wp_block ?_
    refine wp_seq ?_
    refine wp_region_lit ?_
    refine l_op rfl (r_move hst rfl rfl ?_)
    clear hst; intro a hst
    refine l_op rfl (r_callm0 (H1 := []) (xs := [(Operand.tmp 26)]) hst rfl rfl Ten48 (token_i i hi rfl rfl) rfl ?_)
    clear hst; rintro a _ _ w U ⟨⟨tx, rfl, htx⟩, rfl⟩ hst
    simp only [List.cons_append, List.nil_append] at hst
    refine l_op rfl (r_move hst rfl rfl ?_)
    clear hst; intro a hst
    refine l_op rfl (r_extract hst rfl rfl rfl ?_)
    clear hst; intro a hst
    refine l_op rfl (r_extract hst rfl rfl rfl ?_)
    clear hst; intro a hst
    refine l_op rfl (r_alloc hst Tz50 rfl ?_)
    clear hst; intro a w g3 hst
    refine l_op rfl (r_store hst rfl rfl rfl Tsz50 rfl (.head (.here (.here (.here (.here (.here (.nil (Nat.zero_le _)))))))) ?_)
    clear hst; intro w hst
    refine l_op rfl (r_assign hst rfl rfl ?_)
    clear hst; intro a hst
    refine wpList_nil ?_
    refine then_n ?_
    refine wp_seq ?_
    refine wp_region_lit ?_
    refine l_op rfl (r_move hst rfl rfl ?_)
    clear hst; intro a hst
    refine l_op rfl (r_callm0 (H1 := [_]) (xs := [(Operand.tmp 30)]) hst rfl rfl Ten49 (at_m (by omega) (by omega) (by omega) (by omega)) rfl ?_)
    clear hst; rintro a _ _ w U ⟨rfl, rfl⟩ hst
    simp only [List.cons_append, List.nil_append] at hst
    refine l_op rfl (r_fieldAddr hst rfl Tf50_3 rfl ?_)
    clear hst; intro a hst
    refine l_op rfl (r_store hst rfl rfl rfl Tsz28 rfl (.head (.there (.there (.there (.here (.here (.nil (Nat.zero_le _)))))))) ?_)
    clear hst; intro w hst
    refine wpList_nil ?_
    refine then_n ?_
    refine wp_seq ?_
    refine wp_seq ?_
    refine wp_region_lit ?_
    refine l_op rfl (r_move hst rfl rfl ?_)
    clear hst; intro a hst
    refine l_op rfl (r_not hst rfl rfl ?_)
    clear hst; intro a hst
    refine wpList_nil ?_
    refine then_n ?_
    refine x_cond_f hst rfl ?_
    refine wp_skip ?_
    refine then_n ?_
    refine wp_seq ?_
    refine x_cut (MidA w0 U0 g1 g2 g3 i tx 1 (tokP i - 0 + 1)) (fun a w hM => ?_) ?_
    · clear hst
      obtain ⟨n, ts, hn1, hn2, U, A, cc, xs, hst, hxl, htl⟩ := hM
      have hnl2 := tokN_le (i + 1) (by omega)
      refine then_n ?_
      refine wp_seq ?_
      refine x_cut (MidSc w0 U0 g1 g2 g3 i tx 1 (tokP i - 0 + 1) (tokN (i + 1)) (toks.take (tokN (i + 1)))) (fun a w hM => ?_) ?_
      · clear hst
        obtain ⟨U, A, cc, xs, hst, hxl, htl⟩ := hM
        refine then_n ?_
        refine x_drawf (by kernel_rfl) hst (.cons_cons _ (.cons _ (.cons _ (.slnil)))) ?_
        clear hst; intro w hS hst
        refine f_take (i := 0) hS hst (.cons_cons _ (.cons _ (.cons _ (.slnil)))) rfl rfl rfl rfl (by kernel_rfl) (by kernel_rfl) (by kernel_rfl) (fun _ _ _ h => h) (fun _ _ _ _ hst => q_move hst rfl) ?_
        clear hst; intro a hst
        refine f_take (i := 1) hS hst (.cons_cons _ (.cons _ (.cons _ (.slnil)))) rfl rfl rfl rfl (by kernel_rfl) (by kernel_rfl) (by kernel_rfl) (fun _ _ _ h => h) (fun _ _ _ _ hst => q_nilCheck hst rfl) ?_
        clear hst; intro a hst
        refine f_take (i := 2) hS hst (.cons_cons _ (.cons _ (.cons _ (.slnil)))) rfl rfl rfl rfl (by kernel_rfl) (by kernel_rfl) (by kernel_rfl) (fun _ _ _ h => h) (fun _ _ _ _ hst => q_fieldAddr hst rfl Tf101_1) ?_
        clear hst; intro a hst
        refine f_take (i := 4) hS hst (.cons_cons _ (.cons _ (.cons _ (.slnil)))) rfl rfl rfl rfl (by kernel_rfl) (by kernel_rfl) (by kernel_rfl) (fun _ _ _ h => h) (fun _ _ _ _ hst => q_fieldAddr hst rfl Tf50_1) ?_
        clear hst; intro a hst
        refine f_take (i := 5) hS hst (.cons_cons _ (.cons _ (.cons _ (.slnil)))) rfl rfl rfl rfl (by kernel_rfl) (by kernel_rfl) (by kernel_rfl) (fun _ _ _ h => h) (fun _ _ _ _ hst => q_loads hst rfl Ts9 (.head _) rfl) ?_
        clear hst; intro a hst
        refine f_take (i := 6) hS hst (.cons_cons _ (.cons _ (.cons _ (.slnil)))) rfl rfl rfl rfl (by kernel_rfl) (by kernel_rfl) (by kernel_rfl) (fun _ _ _ h => h) (fun _ _ _ _ hst => q_lenstr hst rfl Tu9) ?_
        clear hst; intro a hst
        have htx3 : tx.size ≤ 4 := by rw [← size_toList, htx, (tok_len i hi).1]; split <;> omega
        refine f_one (i := 3) (by kernel_rfl) rfl rfl (r_loads hst rfl Ts3 (.tail _ (.head _)) rfl rfl ?_)
        clear hst; intro a hst
        refine ⟨hst.kept (.cons_cons _ (.cons _ (.cons _ (.slnil)))), ?_⟩
        refine f_take (i := 7) hS hst (.cons_cons _ (.cons _ (.cons _ (.slnil)))) rfl rfl rfl rfl (by kernel_rfl) (by kernel_rfl) (by kernel_rfl) (fun _ _ _ h => h) (fun _ _ _ _ hst => q_bin hst rfl rfl rfl rfl) ?_
        clear hst; intro a hst
        rw [wrap_in _ (by omega) (by omega)] at hst
        refine f_take (i := 8) hS hst (.cons_cons _ (.cons _ (.cons _ (.slnil)))) rfl rfl rfl rfl (by kernel_rfl) (by kernel_rfl) (by kernel_rfl) (fun _ _ _ h => h) (fun _ _ _ _ hst => q_nilCheck hst rfl) ?_
        clear hst; intro a hst
        refine f_take (i := 9) hS hst (.cons_cons _ (.cons _ (.cons _ (.slnil)))) rfl rfl rfl rfl (by kernel_rfl) (by kernel_rfl) (by kernel_rfl) (fun _ _ _ h => h) (fun _ _ _ _ hst => q_fieldAddr hst rfl Tf101_1) ?_
        clear hst; intro a hst
        refine f_one (i := 10) (by kernel_rfl) rfl rfl (r_store hst rfl rfl rfl Tsz3 rfl (.tail (.head (.there (.here (.nil (Nat.zero_le _)))))) ?_)
        clear hst; intro w hst
        refine ⟨hst.kept (.cons_cons _ (.cons _ (.cons _ (.slnil)))), ?_⟩
        refine f_done (by kernel_rfl) ?_
        have hst := hS.back hst
        refine inb_n ?_
        refine then_n ?_
        have htx2 : (tx.size : Int) = ((tokT i).length : Int) := by rw [← size_toList, htx]
        rw [htx2] at hst
        refine wp_region_lit ?_
        refine l_op rfl (r_move hst rfl rfl ?_)
        clear hst; intro a hst
        refine l_op rfl (r_callm0 (H1 := [_]) (xs := [(Operand.tmp 23)]) hst rfl rfl Ten47 (skip_i i hi rfl rfl) rfl ?_)
        clear hst; rintro a _ _ w U ⟨rfl, rfl⟩ hst
        simp only [List.cons_append, List.nil_append] at hst
        refine wpList_nil ?_
        have hst := ((hst.keep (ds := [0, 3, 4]) (.cons rfl (.cons rfl (.cons rfl (.nil))))).drop (.cons _ (.cons_cons _ (.cons_cons _ (.slnil)))))
        exact then_k ⟨_, by omega, _, i + 1, _, _, _, hst, by omega, rfl⟩
      refine x_drawf (by kernel_rfl) hst (.cons_cons _ (.cons _ (.cons _ (.slnil)))) ?_
      clear hst; intro w hS hst
      refine f_take (i := 0) hS hst (.cons_cons _ (.cons _ (.cons _ (.slnil)))) rfl rfl rfl rfl (by kernel_rfl) (by kernel_rfl) (by kernel_rfl) (fun _ _ _ h => h) (fun _ _ _ _ hst => q_move hst rfl) ?_
      clear hst; intro a hst
      refine f_take (i := 1) hS hst (.cons_cons _ (.cons _ (.cons _ (.slnil)))) rfl rfl rfl rfl (by kernel_rfl) (by kernel_rfl) (by kernel_rfl) (fun _ _ _ h => h) (fun _ _ _ _ hst => q_move hst rfl) ?_
      clear hst; intro a hst
      refine f_take (i := 2) hS hst (.cons_cons _ (.cons _ (.cons _ (.slnil)))) rfl rfl rfl rfl (by kernel_rfl) (by kernel_rfl) (by kernel_rfl) (fun _ _ _ h => h) (fun _ _ _ _ hst => q_nilCheck hst rfl) ?_
      clear hst; intro a hst
      refine f_take (i := 3) hS hst (.cons_cons _ (.cons _ (.cons _ (.slnil)))) rfl rfl rfl rfl (by kernel_rfl) (by kernel_rfl) (by kernel_rfl) (fun _ _ _ h => h) (fun _ _ _ _ hst => q_fieldAddr hst rfl Tf101_4) ?_
      clear hst; intro a hst
      refine f_take (i := 5) hS hst (.cons_cons _ (.cons _ (.cons _ (.slnil)))) rfl rfl rfl rfl (by kernel_rfl) (by kernel_rfl) (by kernel_rfl) (fun _ _ _ h => h) (fun _ _ _ _ hst => q_loada hst rfl Ta50 (.head _) (.cons rfl (.cons rfl (.cons rfl (.cons rfl (.cons rfl (.nil)))))) rfl) ?_
      clear hst; intro a hst
      refine f_two (i := 4) (j := 6) (by kernel_rfl) rfl rfl rfl rfl (r_loads hst rfl Ts44 (.tail _ (.head _)) rfl rfl ?_) (r_slice1 hst Tu44 Tsz50 Tz50 rfl (by decide) (by decide) rfl rfl rfl rfl ?_)
      · clear hst; intro a hst
        refine ⟨hst.kept (.cons_cons _ (.cons _ (.cons _ (.slnil)))), ?_⟩
        refine f_one (i := 6) (by kernel_rfl) rfl rfl (r_slice1 hst Tu44 Tsz50 Tz50 rfl (by decide) (by decide) rfl rfl rfl rfl ?_)
        clear hst; intro a w g21 hst
        refine ⟨hst.kept (.cons _ (.cons_cons _ (.cons _ (.cons _ (.slnil))))), ?_⟩
        refine f_one (i := 7) (by kernel_rfl) rfl rfl (r_append hst rfl rfl Tet44 (.head _) rfl (by decide) rfl hst.fact.2.1 hxl (by omega) (by omega) rfl ?_)
        clear hst; intro a v w U hext hcont hv hst
        obtain ⟨A2, c2, rfl, hcc2⟩ := hv
        have hst := hst.newFact (Mono.and (Ext.monoF _ _) (Mono.and (Cont.mono _ _) (Flat.mono kTk _ _))) ⟨hst.fact.1, cf_snoc (K := kTk) hcont hst.fact.2.2 (tokK i, tokT i) ⟨_, _, _, _, rfl, htx⟩⟩
        refine ⟨hst.kept (.cons _ (.cons_cons _ (.cons _ (.cons _ (.slnil))))), ?_⟩
        refine f_take (i := 8) hS hst (.cons _ (.cons_cons _ (.cons _ (.cons _ (.slnil))))) rfl rfl rfl rfl (by kernel_rfl) (by kernel_rfl) (by kernel_rfl) (fun _ _ _ h => h) (fun _ _ _ _ hst => q_nilCheck hst rfl) ?_
        clear hst; intro a hst
        refine f_take (i := 9) hS hst (.cons _ (.cons_cons _ (.cons _ (.cons _ (.slnil))))) rfl rfl rfl rfl (by kernel_rfl) (by kernel_rfl) (by kernel_rfl) (fun _ _ _ h => h) (fun _ _ _ _ hst => q_fieldAddr hst rfl Tf101_4) ?_
        clear hst; intro a hst
        refine f_one (i := 10) (by kernel_rfl) rfl rfl (r_store hst rfl rfl rfl Tsz44 rfl (.tail (.tail (.head (.there (.there (.there (.there (.here (.nil (Nat.zero_le _)))))))))) ?_)
        clear hst; intro w hst
        refine ⟨hst.kept (.cons _ (.cons_cons _ (.cons _ (.cons _ (.slnil))))), ?_⟩
        refine f_done (by kernel_rfl) ?_
        have hst := hst.setFact (Mono.and (Cont.mono _ _) (Flat.mono kTk _ _)) (fun h => h.2)
        have hst := ((hst.keep (ds := [0, 3, 4, 5]) (.cons rfl (.cons rfl (.cons rfl (.cons rfl (.nil)))))).drop (.cons _ (.cons_cons _ (.cons_cons _ (.cons_cons _ (.slnil))))))
        rw [hn1, hn2] at hst
        exact ⟨_, _, _, _, hst, by rw [List.length_append, hxl, ← hn1]; simp; omega, toks_len (i + 1) (by omega)⟩
      clear hst; intro a w g21 hst
      refine ⟨hst.kept (.cons _ (.cons_cons _ (.cons _ (.cons _ (.slnil))))), ?_⟩
      refine f_one (i := 4) (by kernel_rfl) rfl rfl (r_loads hst rfl Ts44 (.tail _ (.tail _ (.head _))) rfl rfl ?_)
      clear hst; intro a hst
      refine ⟨hst.kept (.cons _ (.cons_cons _ (.cons _ (.cons _ (.slnil))))), ?_⟩
      refine f_one (i := 7) (by kernel_rfl) rfl rfl (r_append hst rfl rfl Tet44 (.head _) rfl (by decide) rfl hst.fact.2.1 hxl (by omega) (by omega) rfl ?_)
      clear hst; intro a v w U hext hcont hv hst
      obtain ⟨A2, c2, rfl, hcc2⟩ := hv
      have hst := hst.newFact (Mono.and (Ext.monoF _ _) (Mono.and (Cont.mono _ _) (Flat.mono kTk _ _))) ⟨hst.fact.1, cf_snoc (K := kTk) hcont hst.fact.2.2 (tokK i, tokT i) ⟨_, _, _, _, rfl, htx⟩⟩
      refine ⟨hst.kept (.cons _ (.cons_cons _ (.cons _ (.cons _ (.slnil))))), ?_⟩
      refine f_take (i := 8) hS hst (.cons _ (.cons_cons _ (.cons _ (.cons _ (.slnil))))) rfl rfl rfl rfl (by kernel_rfl) (by kernel_rfl) (by kernel_rfl) (fun _ _ _ h => h) (fun _ _ _ _ hst => q_nilCheck hst rfl) ?_
      clear hst; intro a hst
      refine f_take (i := 9) hS hst (.cons _ (.cons_cons _ (.cons _ (.cons _ (.slnil))))) rfl rfl rfl rfl (by kernel_rfl) (by kernel_rfl) (by kernel_rfl) (fun _ _ _ h => h) (fun _ _ _ _ hst => q_fieldAddr hst rfl Tf101_4) ?_
      clear hst; intro a hst
      refine f_one (i := 10) (by kernel_rfl) rfl rfl (r_store hst rfl rfl rfl Tsz44 rfl (.tail (.tail (.head (.there (.there (.there (.there (.here (.nil (Nat.zero_le _)))))))))) ?_)
      clear hst; intro w hst
      refine ⟨hst.kept (.cons _ (.cons_cons _ (.cons _ (.cons _ (.slnil))))), ?_⟩
      refine f_done (by kernel_rfl) ?_
      have hst := hst.setFact (Mono.and (Cont.mono _ _) (Flat.mono kTk _ _)) (fun h => h.2)
      have hst := ((hst.keep (ds := [0, 3, 4, 5]) (.cons rfl (.cons rfl (.cons rfl (.cons rfl (.nil)))))).drop (.cons _ (.cons_cons _ (.cons_cons _ (.cons_cons _ (.slnil))))))
      rw [hn1, hn2] at hst
      exact ⟨_, _, _, _, hst, by rw [List.length_append, hxl, ← hn1]; simp; omega, toks_len (i + 1) (by omega)⟩
    refine wp_seq ?_
    refine wp_region_lit ?_
    refine l_op rfl (r_fieldAddr hst rfl Tf50_3 rfl ?_)
    clear hst; intro a hst
    refine l_op rfl (r_fieldAddr hst rfl Tf28_1 rfl ?_)
    clear hst; intro a hst
    refine l_op rfl (r_loads hst rfl Ts3 (.head _) rfl rfl ?_)
    clear hst; intro a hst
    refine l_op rfl (r_bin hst rfl rfl rfl rfl rfl ?_)
    clear hst; intro a hst
    refine wpList_nil ?_
    refine then_n ?_
    refine x_cond hst rfl (fun hc3 => ?_) (fun hc3 => ?_)
    · try simp only [n1, n2, n3, n4, n5, n6, n7, n8, n9, na, nb] at hc3
      have hi0 : i = 0 := hb2 (by omega)
      subst hi0
      refine x_drawf (by kernel_rfl) hst (.cons_cons _ (.cons _ (.cons _ (.slnil)))) ?_
      clear hst; intro w hS hst
      refine f_take (i := 0) hS hst (.cons_cons _ (.cons _ (.cons _ (.slnil)))) rfl rfl rfl rfl (by kernel_rfl) (by kernel_rfl) (by kernel_rfl) (fun _ _ _ h => h) (fun _ _ _ _ hst => q_move hst rfl) ?_
      clear hst; intro a hst
      refine f_take (i := 1) hS hst (.cons_cons _ (.cons _ (.cons _ (.slnil)))) rfl rfl rfl rfl (by kernel_rfl) (by kernel_rfl) (by kernel_rfl) (fun _ _ _ h => h) (fun _ _ _ _ hst => q_move hst rfl) ?_
      clear hst; intro a hst
      refine f_take (i := 2) hS hst (.cons_cons _ (.cons _ (.cons _ (.slnil)))) rfl rfl rfl rfl (by kernel_rfl) (by kernel_rfl) (by kernel_rfl) (fun _ _ _ h => h) (fun _ _ _ _ hst => q_nilCheck hst rfl) ?_
      clear hst; intro a hst
      refine f_take (i := 3) hS hst (.cons_cons _ (.cons _ (.cons _ (.slnil)))) rfl rfl rfl rfl (by kernel_rfl) (by kernel_rfl) (by kernel_rfl) (fun _ _ _ h => h) (fun _ _ _ _ hst => q_fieldAddr hst rfl Tf101_4) ?_
      clear hst; intro a hst
      refine f_take (i := 5) hS hst (.cons_cons _ (.cons _ (.cons _ (.slnil)))) rfl rfl rfl rfl (by kernel_rfl) (by kernel_rfl) (by kernel_rfl) (fun _ _ _ h => h) (fun _ _ _ _ hst => q_fieldAddr hst rfl Tf50_3) ?_
      clear hst; intro a hst
      refine f_take (i := 6) hS hst (.cons_cons _ (.cons _ (.cons _ (.slnil)))) rfl rfl rfl rfl (by kernel_rfl) (by kernel_rfl) (by kernel_rfl) (fun _ _ _ h => h) (fun _ _ _ _ hst => q_loada hst rfl Ta28 (.head _) (.cons rfl (.cons rfl (.nil))) rfl) ?_
      clear hst; intro a hst
      refine f_take (i := 7) hS hst (.cons_cons _ (.cons _ (.cons _ (.slnil)))) rfl rfl rfl rfl (by kernel_rfl) (by kernel_rfl) (by kernel_rfl) (fun _ _ _ h => h) (fun _ _ _ _ hst => q_build (ps := [(0, (Operand.const (Value.int IntKind.i64 1))), (3, (Operand.tmp 48))]) hst Tso50 Tz50 (.cons Tf50_0 rfl rfl (.here (.nil (Nat.zero_le _))) (.cons Tf50_3 rfl rfl (.there (.there (.there (.here (.here (.nil (Nat.zero_le _))))))) (.nil)))) ?_
      clear hst; intro a hst
      refine f_two (i := 4) (j := 8) (by kernel_rfl) rfl rfl rfl rfl (r_loads hst rfl Ts44 (.tail _ (.head _)) rfl rfl ?_) (r_slice1 hst Tu44 Tsz50 Tz50 rfl (by decide) (by decide) rfl rfl rfl rfl ?_)
      · clear hst; intro a hst
        refine ⟨hst.kept (.cons_cons _ (.cons _ (.cons _ (.slnil)))), ?_⟩
        refine f_one (i := 8) (by kernel_rfl) rfl rfl (r_slice1 hst Tu44 Tsz50 Tz50 rfl (by decide) (by decide) rfl rfl rfl rfl ?_)
        clear hst; intro a w g4 hst
        refine ⟨hst.kept (.cons _ (.cons_cons _ (.cons _ (.cons _ (.slnil))))), ?_⟩
        refine f_one (i := 9) (by kernel_rfl) rfl rfl (r_append hst rfl rfl Tet44 (.head _) rfl (by decide) rfl hst.fact.2.1 hxl (by omega) (by omega) rfl ?_)
        clear hst; intro a v w U hext hcont hv hst
        obtain ⟨A2, c2, rfl, hcc2⟩ := hv
        have hst := hst.newFact (Mono.and (Ext.monoF _ _) (Mono.and (Cont.mono _ _) (Flat.mono kTk _ _))) ⟨hst.fact.1, cf_snoc (K := kTk) hcont hst.fact.2.2 (1, []) ⟨_, _, _, _, rfl, ByteArray.toList_mk []⟩⟩
        refine ⟨hst.kept (.cons _ (.cons_cons _ (.cons _ (.cons _ (.slnil))))), ?_⟩
        refine f_take (i := 10) hS hst (.cons _ (.cons_cons _ (.cons _ (.cons _ (.slnil))))) rfl rfl rfl rfl (by kernel_rfl) (by kernel_rfl) (by kernel_rfl) (fun _ _ _ h => h) (fun _ _ _ _ hst => q_nilCheck hst rfl) ?_
        clear hst; intro a hst
        refine f_take (i := 11) hS hst (.cons _ (.cons_cons _ (.cons _ (.cons _ (.slnil))))) rfl rfl rfl rfl (by kernel_rfl) (by kernel_rfl) (by kernel_rfl) (fun _ _ _ h => h) (fun _ _ _ _ hst => q_fieldAddr hst rfl Tf101_4) ?_
        clear hst; intro a hst
        refine f_one (i := 12) (by kernel_rfl) rfl rfl (r_store hst rfl rfl rfl Tsz44 rfl (.tail (.tail (.head (.there (.there (.there (.there (.here (.nil (Nat.zero_le _)))))))))) ?_)
        clear hst; intro w hst
        refine ⟨hst.kept (.cons _ (.cons_cons _ (.cons _ (.cons _ (.slnil))))), ?_⟩
        refine f_done (by kernel_rfl) ?_
        have hst := hst.setFact (Mono.and (Cont.mono _ _) (Flat.mono kTk _ _)) (fun h => h.2)
        have hst := ((hst.keep (ds := [0, 3, 4, 5]) (.cons rfl (.cons rfl (.cons rfl (.cons rfl (.nil)))))).drop (.cons _ (.cons_cons _ (.cons_cons _ (.cons_cons _ (.slnil))))))
        exact ⟨1, [(1, [])], rfl, rfl, _, _, _, _, hst, by simp [hxl, tokN], rfl⟩
      clear hst; intro a w g4 hst
      refine ⟨hst.kept (.cons _ (.cons_cons _ (.cons _ (.cons _ (.slnil))))), ?_⟩
      refine f_one (i := 4) (by kernel_rfl) rfl rfl (r_loads hst rfl Ts44 (.tail _ (.tail _ (.head _))) rfl rfl ?_)
      clear hst; intro a hst
      refine ⟨hst.kept (.cons _ (.cons_cons _ (.cons _ (.cons _ (.slnil))))), ?_⟩
      refine f_one (i := 9) (by kernel_rfl) rfl rfl (r_append hst rfl rfl Tet44 (.head _) rfl (by decide) rfl hst.fact.2.1 hxl (by omega) (by omega) rfl ?_)
      clear hst; intro a v w U hext hcont hv hst
      obtain ⟨A2, c2, rfl, hcc2⟩ := hv
      have hst := hst.newFact (Mono.and (Ext.monoF _ _) (Mono.and (Cont.mono _ _) (Flat.mono kTk _ _))) ⟨hst.fact.1, cf_snoc (K := kTk) hcont hst.fact.2.2 (1, []) ⟨_, _, _, _, rfl, ByteArray.toList_mk []⟩⟩
      refine ⟨hst.kept (.cons _ (.cons_cons _ (.cons _ (.cons _ (.slnil))))), ?_⟩
      refine f_take (i := 10) hS hst (.cons _ (.cons_cons _ (.cons _ (.cons _ (.slnil))))) rfl rfl rfl rfl (by kernel_rfl) (by kernel_rfl) (by kernel_rfl) (fun _ _ _ h => h) (fun _ _ _ _ hst => q_nilCheck hst rfl) ?_
      clear hst; intro a hst
      refine f_take (i := 11) hS hst (.cons _ (.cons_cons _ (.cons _ (.cons _ (.slnil))))) rfl rfl rfl rfl (by kernel_rfl) (by kernel_rfl) (by kernel_rfl) (fun _ _ _ h => h) (fun _ _ _ _ hst => q_fieldAddr hst rfl Tf101_4) ?_
      clear hst; intro a hst
      refine f_one (i := 12) (by kernel_rfl) rfl rfl (r_store hst rfl rfl rfl Tsz44 rfl (.tail (.tail (.head (.there (.there (.there (.there (.here (.nil (Nat.zero_le _)))))))))) ?_)
      clear hst; intro w hst
      refine ⟨hst.kept (.cons _ (.cons_cons _ (.cons _ (.cons _ (.slnil))))), ?_⟩
      refine f_done (by kernel_rfl) ?_
      have hst := hst.setFact (Mono.and (Cont.mono _ _) (Flat.mono kTk _ _)) (fun h => h.2)
      have hst := ((hst.keep (ds := [0, 3, 4, 5]) (.cons rfl (.cons rfl (.cons rfl (.cons rfl (.nil)))))).drop (.cons _ (.cons_cons _ (.cons_cons _ (.cons_cons _ (.slnil))))))
      exact ⟨1, [(1, [])], rfl, rfl, _, _, _, _, hst, by simp [hxl, tokN], rfl⟩
    try simp only [n1, n2, n3, n4, n5, n6, n7, n8, n9, na, nb] at hc3
    have hi0 : ¬ i = 0 := fun h => by subst h; exact absurd rfl (by assumption)
    refine wp_skip ?_
    have hst := ((hst.keep (ds := [0, 3, 4, 5]) (.cons rfl (.cons rfl (.cons rfl (.cons rfl (.nil)))))).drop (.cons_cons _ (.cons_cons _ (.cons_cons _ (.slnil)))))
    have hi1 : 1 ≤ i := by rcases Nat.eq_zero_or_pos i with rfl | h
                           · exact absurd rfl (by assumption)
                           · exact h
    obtain ⟨hn1, hn2⟩ := toks_next i hi hi1
    exact ⟨_, _, hn2.symm, hn1.symm, _, _, _, _, hst, hxl, toks_len i hi7⟩
  try simp only [n1, n2, n3, n4, n5, n6, n7, n8, n9, na, nb] at hc2
  refine wp_exit ?_
  refine then_x ?_
  refine then_x ?_
  refine inb_hit ?_
  refine then_n ?_
  refine wp_seq ?_
  have hi8 : i = 7 := by rcases Nat.lt_or_ge i 7 with h | h
                         · have := hbt2 h; omega
                         · omega
  subst hi8
  refine x_drawf (by kernel_rfl) hst (.cons_cons _ (.cons _ (.slnil))) ?_
  clear hst; intro w hS hst
  refine f_take (i := 0) hS hst (.cons_cons _ (.cons _ (.slnil))) rfl rfl rfl rfl (by kernel_rfl) (by kernel_rfl) (by kernel_rfl) (fun _ _ _ h => h) (fun _ _ _ _ hst => q_move hst rfl) ?_
  clear hst; intro a hst
  refine f_take (i := 1) hS hst (.cons_cons _ (.cons _ (.slnil))) rfl rfl rfl rfl (by kernel_rfl) (by kernel_rfl) (by kernel_rfl) (fun _ _ _ h => h) (fun _ _ _ _ hst => q_nilCheck hst rfl) ?_
  clear hst; intro a hst
  refine f_take (i := 2) hS hst (.cons_cons _ (.cons _ (.slnil))) rfl rfl rfl rfl (by kernel_rfl) (by kernel_rfl) (by kernel_rfl) (fun _ _ _ h => h) (fun _ _ _ _ hst => q_fieldAddr hst rfl Tf101_4) ?_
  clear hst; intro a hst
  refine f_take (i := 3) hS hst (.cons_cons _ (.cons _ (.slnil))) rfl rfl rfl rfl (by kernel_rfl) (by kernel_rfl) (by kernel_rfl) (fun _ _ _ h => h) (fun _ _ _ _ hst => q_loads hst rfl Ts44 (.head _) rfl) ?_
  clear hst; intro a hst
  refine f_take (i := 4) hS hst (.cons_cons _ (.cons _ (.slnil))) rfl rfl rfl rfl (by kernel_rfl) (by kernel_rfl) (by kernel_rfl) (fun _ _ _ h => h) (fun _ _ _ _ hst => q_move hst rfl) ?_
  clear hst; intro a hst
  refine f_take (i := 9) hS hst (.cons_cons _ (.cons _ (.slnil))) rfl rfl rfl rfl (by kernel_rfl) (by kernel_rfl) (by kernel_rfl) (fun _ _ _ h => h) (fun _ _ _ _ hst => q_build (ps := []) hst Tso36 Tz36 (.nil)) ?_
  clear hst; intro a hst
  refine f_one (i := 5) (by kernel_rfl) rfl rfl (r_callm0 (H1 := []) (xs := [(Operand.tmp 78)]) hst rfl rfl Ten49 (at_m (by omega) (by omega) (by omega) (by omega)) rfl ?_)
  clear hst; rintro a _ _ w U ⟨rfl, rfl⟩ hst
  simp only [List.cons_append, List.nil_append] at hst
  refine ⟨hst.kept (.cons_cons _ (.cons _ (.slnil))), ?_⟩
  refine f_take (i := 6) hS hst (.cons_cons _ (.cons _ (.slnil))) rfl rfl rfl rfl (by kernel_rfl) (by kernel_rfl) (by kernel_rfl) (fun _ _ _ h => h) (fun _ _ _ _ hst => q_build (ps := [(3, (Operand.tmp 79))]) hst Tso50 Tz50 (.cons Tf50_3 rfl rfl (.there (.there (.there (.here (.here (.nil (Nat.zero_le _))))))) (.nil))) ?_
  clear hst; intro a hst
  refine f_one (i := 7) (by kernel_rfl) rfl rfl (r_slice1 hst Tu44 Tsz50 Tz50 rfl (by decide) (by decide) rfl rfl rfl rfl ?_)
  clear hst; intro a w g3 hst
  refine ⟨hst.kept (.cons _ (.cons_cons _ (.cons _ (.slnil)))), ?_⟩
  refine f_one (i := 8) (by kernel_rfl) rfl rfl (r_append hst rfl rfl Tet44 (.head _) rfl (by decide) rfl hst.fact.2.1 hxl (by omega) (by omega) rfl ?_)
  clear hst; intro a v w U hext hcont hv hst
  obtain ⟨A2, c2, rfl, hcc2⟩ := hv
  have hst := hst.newFact (Mono.and (Ext.monoF _ _) (Mono.and (Cont.mono _ _) (Flat.mono kTk _ _))) ⟨hst.fact.1, cf_snoc (K := kTk) hcont hst.fact.2.2 (0, []) ⟨_, _, _, _, rfl, ByteArray.toList_mk []⟩⟩
  refine ⟨hst.kept (.cons _ (.cons_cons _ (.cons _ (.slnil)))), ?_⟩
  refine f_take (i := 10) hS hst (.cons _ (.cons_cons _ (.cons _ (.slnil)))) rfl rfl rfl rfl (by kernel_rfl) (by kernel_rfl) (by kernel_rfl) (fun _ _ _ h => h) (fun _ _ _ _ hst => q_assign hst rfl) ?_
  clear hst; intro a hst
  refine f_one (i := 11) (by kernel_rfl) rfl rfl (r_store hst rfl rfl rfl Tsz36 rfl (.tail (.tail (.head (.here (.here (.here (.nil (Nat.zero_le _)))))))) ?_)
  clear hst; intro w hst
  refine ⟨hst.kept (.cons _ (.cons_cons _ (.cons _ (.slnil)))), ?_⟩
  refine f_done (by kernel_rfl) ?_
  have hst := hst.setFact (Mono.and (Cont.mono _ _) (Flat.mono kTk _ _)) (fun h => h.2)
  refine then_n ?_
  refine wp_ret ?_
  refine x_ret (rs := [.tmp 2, .cell 3 36]) hst rfl (.tmp rfl (.agg rfl Ta36 (.tail _ (.tail _ (.head _))) rfl (.nil))) ?_
  exact ⟨_, _, rfl, Sl.of_flat hst.fact.1 hst.fact.2 rfl (show 9 ≤ _ from hcc2)⟩
end Go.Proofs.YtjnjkbmegfkiiaaGreat
