/- Contracts of the reader of patterns, declarations and rules. -/
import Derived.Test.YtjnjkbmegfkiiaaGreatR3
namespace Go.Proofs.YtjnjkbmegfkiiaaGreat
open Go.RowKit
set_option maxRecDepth 10000
set_option linter.unusedVariables false
set_option linter.unusedSimpArgs false
attribute [local irreducible] Oper.wp Code.wp wpList wpAny wpOp Calls CallsS
/-- What holds at the head of the loop over patterns. -/
def InvPat (w0 : World) (U0 : Mk) (A : Option Addr) (n c : Nat) (i d : Int) (b : Bool) (x y : Int) (up : Bool) (k m p q : Int) (s : ByteArray) (Be : Option Addr) (le ce : Nat) (t0 : ExT) (g1 g2 g3 g4 g5 : Nat) (mz : Nat) (a : Act) (w : World) : Prop :=
  ∃ (U : Mk) (i' d' x' y' : Int) (b' : Bool) (B : Option Addr) (l cc : Nat) (xs : List Value) (ts : List ExT),
    Sta w0 U0 95 [(1, .pointer (some ⟨g1, 0, none⟩)), (2, .pointer (some ⟨g2, 0, none⟩)), (3, .pointer (some ⟨g3, 0, none⟩)), (8, .bool up), (9, .pointer (some ⟨g4, 0, none⟩)), (10, .pointer (some ⟨g5, 0, none⟩)), (11, .slice B l cc)] [⟨g5, 58, [.int .i64 k, .string s, .int .i64 m, .slice Be le ce, .int .i64 p, .int .i64 q]⟩, ⟨g4, 48, [.slice A n c, .int .i64 i', .int .i64 d', .bool b', .int .i64 x', .int .i64 y']⟩, ⟨g3, 58, [.int .i64 0, .string ⟨#[]⟩, .int .i64 0, .slice none 0 0, .int .i64 0, .int .i64 0]⟩, ⟨g2, 48, [.slice none 0 0, .int .i64 0, .int .i64 0, .bool false, .int .i64 0, .int .i64 0]⟩, ⟨g1, 48, [.slice A n c, .int .i64 i, .int .i64 d, .bool b, .int .i64 x, .int .i64 y]⟩] [⟨.slice B l cc, 58, 6, l⟩] (fun w U => ((Cont (.slice B l cc) xs w U ∧ Flat kE xs ts w U) ∧ ERep w U [.int .i64 k, .string s, .int .i64 m, .slice Be le ce, .int .i64 p, .int .i64 q] t0) ∧ Toks A n w U) a w U ∧
    i ≤ i' ∧ i' ≤ n ∧ 0 ≤ d' ∧ d' ≤ 40 ∧ ts.length = l ∧ l ≤ cc ∧ xs.length = l * 6 ∧ l + mu n i' b' ≤ 2 * n + 2 ∧ (b' = true ∨ (b = false ∧ i < i')) ∧ mz = mu n i' b'

theorem pat_c {A : Option Addr} {n c : Nat} (hn : n ≤ 1000000) (mm : Nat) (ih : ∀ m, m < mm → SExp 42 A n c m) {w : World} {U : Mk} (i d x y : Int) (b : Bool) (h0 : 0 ≤ i) (hin : i ≤ n) (hd0 : 0 ≤ d) (hd : d ≤ 40) (hmu : mu n i b ≤ mm) (hT : Toks A n w U) :
    CallsS Tryz.prog 42 [.agg #[.slice A n c, .int .i64 i, .int .i64 d, .bool b, .int .i64 x, .int .i64 y]] w U (RExp A n c i d b) := by
  refine x_enter (F := Toks A n) (n := 95) Tryz.func42 rfl rfl (by simp) (.cons (d := 0) rfl (.nil)) (Toks.mono A n) (hT) ?_
  intro a hst
  refine wp_seq ?_
  refine wp_region_lit ?_
  refine l_op rfl (r_box hst rfl rfl rfl ?_)
  clear hst; intro a w g1 hst
  refine l_op rfl (r_alloc hst Tz48 rfl ?_)
  clear hst; intro a w g2 hst
  refine l_op rfl (r_alloc hst Tz58 rfl ?_)
  clear hst; intro a w g3 hst
  refine wpList_nil ?_
  refine then_n ?_
  refine wp_seq ?_
  refine wp_region_lit ?_
  refine l_op rfl (r_loada hst rfl Ta48 (.tail _ (.tail _ (.head _))) (.cons rfl (.cons rfl (.cons rfl (.cons rfl (.cons rfl (.cons rfl (.nil))))))) rfl rfl ?_)
  clear hst; intro a hst
  refine l_op rfl (r_call (xs := [(Operand.tmp 14)]) hst rfl Ten12 (now_c _ _ _ _ _ (by omega) hn (by first | exact hst.fact | exact hst.fact.2 | exact hst.fact.2.2 | exact hst.fact.2.2.2 | exact hst.fact.2.2.2.2)) rfl ?_)
  clear hst; rintro a _ w U ⟨k1, m1, p1, q1, s1, rfl, hk1⟩ hst
  refine l_op rfl (r_fielda hst rfl Tfa50_3 (.cons rfl (.cons rfl (.nil))) rfl rfl ?_)
  clear hst; intro a hst
  refine l_op rfl (r_alloc hst Tz28 rfl ?_)
  clear hst; intro a w g4 hst
  refine l_op rfl (r_store hst rfl rfl rfl Tsz28 rfl (.head (.here (.here (.nil (Nat.zero_le _))))) ?_)
  clear hst; intro w hst
  refine wpList_nil ?_
  refine then_n ?_
  refine wp_seq ?_
  refine wp_seq ?_
  refine wp_region_lit ?_
  refine l_op rfl (r_loada hst rfl Ta48 (.tail _ (.tail _ (.tail _ (.head _)))) (.cons rfl (.cons rfl (.cons rfl (.cons rfl (.cons rfl (.cons rfl (.nil))))))) rfl rfl ?_)
  clear hst; intro a hst
  refine l_op rfl (r_call (xs := [(Operand.tmp 17), (Operand.const (Value.int IntKind.i64 6)), (Operand.const (Value.string { data := #[95] }))]) hst rfl Ten14 (is_c _ _ _ _ _ _ _ (by omega) hn (by first | exact hst.fact | exact hst.fact.2 | exact hst.fact.2.2 | exact hst.fact.2.2.2 | exact hst.fact.2.2.2.2) (by decide)) rfl ?_)
  clear hst; rintro a _ w U ⟨b1, rfl, hb1⟩ hst
  refine wpList_nil ?_
  refine then_n ?_
  refine x_cond hst rfl (fun hc1 => ?_) (fun hc1 => ?_)
  · try simp at hc1
    try (have hz := hb1; simp [hc1] at hz)
    refine wp_seq ?_
    refine wp_region_lit ?_
    refine l_op rfl (r_fieldAddr hst rfl Tf48_1 rfl ?_)
    clear hst; intro a hst
    refine l_op rfl (r_loads hst rfl Ts3 (.tail _ (.tail _ (.tail _ (.head _)))) rfl rfl ?_)
    clear hst; intro a hst
    refine l_op rfl (r_bin hst rfl rfl rfl rfl rfl ?_)
    clear hst; intro a hst
    rw [wrap_in _ (by omega) (by omega)] at hst
    refine l_op rfl (r_fieldAddr hst rfl Tf48_1 rfl ?_)
    clear hst; intro a hst
    refine l_op rfl (r_store hst rfl rfl rfl Tsz3 rfl (.tail (.tail (.tail (.head (.there (.here (.nil (Nat.zero_le _)))))))) ?_)
    clear hst; intro w hst
    refine wpList_nil ?_
    refine then_n ?_
    refine wp_seq ?_
    refine x_drawh (by kernel_rfl) hst (.cons_cons _ (.cons _ (.cons _ (.cons_cons _ (.slnil))))) ?_
    clear hst; intro w hst
    refine h_take (i := 0) hst (.cons_cons _ (.cons _ (.cons _ (.cons_cons _ (.slnil))))) rfl rfl rfl rfl (by kernel_rfl) (by kernel_rfl) (by kernel_rfl) (fun _ _ _ h => h) (fun _ _ _ _ hst => q_loada hst rfl Ta48 (.tail _ (.head _)) (.cons rfl (.cons rfl (.cons rfl (.cons rfl (.cons rfl (.cons rfl (.nil))))))) rfl) ?_
    clear hst; intro a hst
    refine h_take (i := 1) hst (.cons_cons _ (.cons _ (.cons _ (.cons_cons _ (.slnil))))) rfl rfl rfl rfl (by kernel_rfl) (by kernel_rfl) (by kernel_rfl) (fun _ _ _ h => h) (fun _ _ _ _ hst => q_loada hst rfl Ta28 (.head _) (.cons rfl (.cons rfl (.nil))) rfl) ?_
    clear hst; intro a hst
    refine h_take (i := 2) hst (.cons_cons _ (.cons _ (.cons _ (.cons_cons _ (.slnil))))) rfl rfl rfl rfl (by kernel_rfl) (by kernel_rfl) (by kernel_rfl) (fun _ _ _ h => h) (fun _ _ _ _ hst => q_build (ps := [(0, (Operand.const (Value.int IntKind.i64 9))), (4, (Operand.tmp 24))]) hst Tso58 Tz58 (.cons Tf58_0 rfl rfl (.here (.nil (Nat.zero_le _))) (.cons Tf58_4 rfl rfl (.there (.there (.there (.there (.here (.here (.nil (Nat.zero_le _)))))))) (.nil)))) ?_
    clear hst; intro a hst
    refine h_one (i := 3) (by kernel_rfl) rfl rfl (r_store hst rfl rfl rfl Tsz48 rfl (.tail (.tail (.head (.here (.here (.here (.here (.here (.here (.nil (Nat.zero_le _))))))))))) ?_)
    clear hst; intro w hst
    refine ⟨hst.held (.cons_cons _ (.cons _ (.cons _ (.cons_cons _ (.slnil))))), ?_⟩
    refine h_one (i := 4) (by kernel_rfl) rfl rfl (r_store hst rfl rfl rfl Tsz58 rfl (.tail (.head (.here (.here (.here (.here (.here (.here (.nil (Nat.zero_le _)))))))))) ?_)
    clear hst; intro w hst
    refine ⟨hst.held (.cons_cons _ (.cons _ (.cons _ (.cons_cons _ (.slnil))))), ?_⟩
    refine h_done (by kernel_rfl) ?_
    refine then_n ?_
    refine wp_ret ?_
    refine then_r ?_
    refine x_ret (rs := [.cell 2 48, .cell 3 58]) hst rfl (.agg rfl Ta48 (.tail _ (.tail _ (.head _))) rfl (.agg rfl Ta58 (.tail _ (.head _)) rfl (.nil))) ?_
    first | exact ⟨_, _, _, _, _, _, _, _, _, _, _, _, _, rfl, by grind, by grind, by grind, ERep.of_sl (args := []) (Sl.nil _ _ _ _ _)⟩
  try simp at hc1
  try (have hz := hb1; simp [hc1] at hz)
  refine wp_skip ?_
  refine then_n ?_
  refine wp_seq ?_
  refine wp_region_lit ?_
  refine l_op rfl (r_loada hst rfl Ta48 (.tail _ (.tail _ (.tail _ (.head _)))) (.cons rfl (.cons rfl (.cons rfl (.cons rfl (.cons rfl (.cons rfl (.nil))))))) rfl rfl ?_)
  clear hst; intro a hst
  refine l_op rfl (r_call (xs := [(Operand.tmp 27)]) hst rfl Ten62 (plain_c _ _ _ _ _ (by omega) hn (by first | exact hst.fact | exact hst.fact.2 | exact hst.fact.2.2 | exact hst.fact.2.2.2 | exact hst.fact.2.2.2.2) (by omega)) rfl ?_)
  clear hst; rintro a _ w U ⟨i4, k4, m4, p4, q4, s4, rfl, hp4⟩ hst
  refine l_op rfl (r_move hst rfl rfl ?_)
  clear hst; intro a hst
  refine l_op rfl (r_extract hst rfl rfl rfl ?_)
  clear hst; intro a hst
  refine l_op rfl (r_extract hst rfl rfl rfl ?_)
  clear hst; intro a hst
  refine l_op rfl (r_alloc hst Tz48 rfl ?_)
  clear hst; intro a w g5 hst
  refine l_op rfl (r_alloc hst Tz58 rfl ?_)
  clear hst; intro a w g6 hst
  refine l_op rfl (r_store hst rfl rfl rfl Tsz48 rfl (.tail (.head (.here (.here (.here (.here (.here (.here (.nil (Nat.zero_le _)))))))))) ?_)
  clear hst; intro w hst
  refine l_op rfl (r_store hst rfl rfl rfl Tsz58 rfl (.head (.here (.here (.here (.here (.here (.here (.nil (Nat.zero_le _))))))))) ?_)
  clear hst; intro w hst
  refine wpList_nil ?_
  refine then_n ?_
  refine wp_seq ?_
  refine wp_seq ?_
  refine wp_region_lit ?_
  refine l_op rfl (r_fieldAddr hst rfl Tf58_0 rfl ?_)
  clear hst; intro a hst
  refine l_op rfl (r_loads hst rfl Ts3 (.head _) rfl rfl ?_)
  clear hst; intro a hst
  refine l_op rfl (r_bin hst rfl rfl rfl rfl rfl ?_)
  clear hst; intro a hst
  refine l_op rfl (r_move hst rfl rfl ?_)
  clear hst; intro a hst
  refine hst.split (t := 34) rfl (fun hc2 hst => ?_) (fun hc2 hst => ?_)
  · try simp at hc2
    try (have hz := hb1; simp [hc2] at hz)
    refine l_off hst rfl rfl rfl (by decide) rfl rfl ?_
    clear hst; intro a hst
    refine l_off hst rfl rfl rfl (by decide) rfl rfl ?_
    clear hst; intro a hst
    refine l_op rfl (r_pick hst rfl rfl rfl ?_)
    clear hst; intro a hst
    refine wpList_nil ?_
    refine then_n ?_
    refine x_cond_t hst rfl ?_
    refine wp_seq ?_
    refine x_drawh (by kernel_rfl) hst (.cons_cons _ (.cons_cons _ (.cons _ (.cons _ (.cons _ (.cons _ (.slnil))))))) ?_
    clear hst; intro w hst
    refine h_take (i := 0) hst (.cons_cons _ (.cons_cons _ (.cons _ (.cons _ (.cons _ (.cons _ (.slnil))))))) rfl rfl rfl rfl (by kernel_rfl) (by kernel_rfl) (by kernel_rfl) (fun _ _ _ h => h) (fun _ _ _ _ hst => q_loada hst rfl Ta48 (.tail _ (.head _)) (.cons rfl (.cons rfl (.cons rfl (.cons rfl (.cons rfl (.cons rfl (.nil))))))) rfl) ?_
    clear hst; intro a hst
    refine h_take (i := 1) hst (.cons_cons _ (.cons_cons _ (.cons _ (.cons _ (.cons _ (.cons _ (.slnil))))))) rfl rfl rfl rfl (by kernel_rfl) (by kernel_rfl) (by kernel_rfl) (fun _ _ _ h => h) (fun _ _ _ _ hst => q_loada hst rfl Ta58 (.head _) (.cons rfl (.cons rfl (.cons rfl (.cons rfl (.cons rfl (.cons rfl (.nil))))))) rfl) ?_
    clear hst; intro a hst
    refine h_one (i := 2) (by kernel_rfl) rfl rfl (r_store hst rfl rfl rfl Tsz48 rfl (.tail (.tail (.tail (.tail (.head (.here (.here (.here (.here (.here (.here (.nil (Nat.zero_le _))))))))))))) ?_)
    clear hst; intro w hst
    refine ⟨hst.held (.cons_cons _ (.cons_cons _ (.cons _ (.cons _ (.cons _ (.cons _ (.slnil))))))), ?_⟩
    refine h_one (i := 3) (by kernel_rfl) rfl rfl (r_store hst rfl rfl rfl Tsz58 rfl (.tail (.tail (.tail (.head (.here (.here (.here (.here (.here (.here (.nil (Nat.zero_le _)))))))))))) ?_)
    clear hst; intro w hst
    refine ⟨hst.held (.cons_cons _ (.cons_cons _ (.cons _ (.cons _ (.cons _ (.cons _ (.slnil))))))), ?_⟩
    refine h_done (by kernel_rfl) ?_
    refine then_n ?_
    refine wp_ret ?_
    refine then_r ?_
    refine x_ret (rs := [.cell 2 48, .cell 3 58]) hst rfl (.agg rfl Ta48 (.tail _ (.tail _ (.tail _ (.tail _ (.head _))))) rfl (.agg rfl Ta58 (.tail _ (.tail _ (.tail _ (.head _)))) rfl (.nil))) ?_
    first | exact ⟨_, _, _, _, _, _, _, _, _, _, _, _, _, rfl, by grind, by grind, by grind, ERep.of_sl (args := []) (Sl.nil _ _ _ _ _)⟩
  try simp at hc2
  try (have hz := hb1; simp [hc2] at hz)
  refine l_on hst rfl rfl rfl (r_fieldAddr hst rfl Tf48_3 rfl ?_)
  clear hst; intro a hst
  refine l_on hst rfl rfl rfl (r_loads hst rfl Ts4 (.tail _ (.tail _ (.tail _ (.tail _ (.tail _ (.head _)))))) rfl rfl ?_)
  clear hst; intro a hst
  refine l_op rfl (r_pick hst rfl rfl rfl ?_)
  clear hst; intro a hst
  refine wpList_nil ?_
  refine then_n ?_
  refine x_cond hst rfl (fun hc3 => ?_) (fun hc3 => ?_)
  · try simp at hc3
    try (have hz := hb1; simp [hc3] at hz)
    refine wp_seq ?_
    refine x_drawh (by kernel_rfl) hst (.cons_cons _ (.cons_cons _ (.cons _ (.cons _ (.cons _ (.cons _ (.slnil))))))) ?_
    clear hst; intro w hst
    refine h_take (i := 0) hst (.cons_cons _ (.cons_cons _ (.cons _ (.cons _ (.cons _ (.cons _ (.slnil))))))) rfl rfl rfl rfl (by kernel_rfl) (by kernel_rfl) (by kernel_rfl) (fun _ _ _ h => h) (fun _ _ _ _ hst => q_loada hst rfl Ta48 (.tail _ (.head _)) (.cons rfl (.cons rfl (.cons rfl (.cons rfl (.cons rfl (.cons rfl (.nil))))))) rfl) ?_
    clear hst; intro a hst
    refine h_take (i := 1) hst (.cons_cons _ (.cons_cons _ (.cons _ (.cons _ (.cons _ (.cons _ (.slnil))))))) rfl rfl rfl rfl (by kernel_rfl) (by kernel_rfl) (by kernel_rfl) (fun _ _ _ h => h) (fun _ _ _ _ hst => q_loada hst rfl Ta58 (.head _) (.cons rfl (.cons rfl (.cons rfl (.cons rfl (.cons rfl (.cons rfl (.nil))))))) rfl) ?_
    clear hst; intro a hst
    refine h_one (i := 2) (by kernel_rfl) rfl rfl (r_store hst rfl rfl rfl Tsz48 rfl (.tail (.tail (.tail (.tail (.head (.here (.here (.here (.here (.here (.here (.nil (Nat.zero_le _))))))))))))) ?_)
    clear hst; intro w hst
    refine ⟨hst.held (.cons_cons _ (.cons_cons _ (.cons _ (.cons _ (.cons _ (.cons _ (.slnil))))))), ?_⟩
    refine h_one (i := 3) (by kernel_rfl) rfl rfl (r_store hst rfl rfl rfl Tsz58 rfl (.tail (.tail (.tail (.head (.here (.here (.here (.here (.here (.here (.nil (Nat.zero_le _)))))))))))) ?_)
    clear hst; intro w hst
    refine ⟨hst.held (.cons_cons _ (.cons_cons _ (.cons _ (.cons _ (.cons _ (.cons _ (.slnil))))))), ?_⟩
    refine h_done (by kernel_rfl) ?_
    refine then_n ?_
    refine wp_ret ?_
    refine then_r ?_
    refine x_ret (rs := [.cell 2 48, .cell 3 58]) hst rfl (.agg rfl Ta48 (.tail _ (.tail _ (.tail _ (.tail _ (.head _))))) rfl (.agg rfl Ta58 (.tail _ (.tail _ (.tail _ (.head _)))) rfl (.nil))) ?_
    first | exact ⟨_, _, _, _, _, _, _, _, _, _, _, _, _, rfl, by grind, by grind, by grind, ERep.of_sl (args := []) (Sl.nil _ _ _ _ _)⟩
  try simp at hc3
  try (have hz := hb1; simp [hc3] at hz)
  refine wp_skip ?_
  refine then_n ?_
  refine wp_seq ?_
  refine wp_seq ?_
  refine wp_region_lit ?_
  refine l_op rfl (r_loada hst rfl Ta48 (.tail _ (.tail _ (.tail _ (.tail _ (.tail _ (.head _)))))) (.cons rfl (.cons rfl (.cons rfl (.cons rfl (.cons rfl (.cons rfl (.nil))))))) rfl rfl ?_)
  clear hst; intro a hst
  refine l_op rfl (r_call (xs := [(Operand.tmp 40), (Operand.const (Value.int IntKind.i64 6)), (Operand.const (Value.string { data := #[40] }))]) hst rfl Ten14 (is_c _ _ _ _ _ _ _ (by omega) hn (by first | exact hst.fact | exact hst.fact.2 | exact hst.fact.2.2 | exact hst.fact.2.2.2 | exact hst.fact.2.2.2.2) (by decide)) rfl ?_)
  clear hst; rintro a _ w U ⟨b1, rfl, hb1⟩ hst
  refine l_op rfl (r_not hst rfl rfl ?_)
  clear hst; intro a hst
  refine wpList_nil ?_
  refine then_n ?_
  refine x_cond hst rfl (fun hc4 => ?_) (fun hc4 => ?_)
  · try simp at hc4
    try (have hz := hb1; simp [hc4] at hz)
    refine wp_seq ?_
    refine x_drawh (by kernel_rfl) hst (.cons_cons _ (.cons _ (.cons _ (.cons _ (.cons _ (.cons_cons _ (.slnil))))))) ?_
    clear hst; intro w hst
    refine h_take (i := 0) hst (.cons_cons _ (.cons _ (.cons _ (.cons _ (.cons _ (.cons_cons _ (.slnil))))))) rfl rfl rfl rfl (by kernel_rfl) (by kernel_rfl) (by kernel_rfl) (fun _ _ _ h => h) (fun _ _ _ _ hst => q_loada hst rfl Ta48 (.tail _ (.head _)) (.cons rfl (.cons rfl (.cons rfl (.cons rfl (.cons rfl (.cons rfl (.nil))))))) rfl) ?_
    clear hst; intro a hst
    refine h_take (i := 2) hst (.cons_cons _ (.cons _ (.cons _ (.cons _ (.cons _ (.cons_cons _ (.slnil))))))) rfl rfl rfl rfl (by kernel_rfl) (by kernel_rfl) (by kernel_rfl) (fun _ _ _ h => h) (fun _ _ _ _ hst => q_loada hst rfl Ta58 (.head _) (.cons rfl (.cons rfl (.cons rfl (.cons rfl (.cons rfl (.cons rfl (.nil))))))) rfl) ?_
    clear hst; intro a hst
    refine h_one (i := 1) (by kernel_rfl) rfl rfl (r_call (xs := [(Operand.tmp 43)]) hst rfl Ten39 (fail_c _ _ _ _ _ (by omega) hn (by first | exact hst.fact | exact hst.fact.2 | exact hst.fact.2.2 | exact hst.fact.2.2.2 | exact hst.fact.2.2.2.2)) rfl ?_)
    clear hst; rintro a _ w U ⟨xf, yf, rfl⟩ hst
    refine ⟨hst.held (.cons_cons _ (.cons _ (.cons _ (.cons _ (.cons _ (.cons_cons _ (.slnil))))))), ?_⟩
    refine h_one (i := 3) (by kernel_rfl) rfl rfl (r_store hst rfl rfl rfl Tsz48 rfl (.tail (.tail (.tail (.tail (.head (.here (.here (.here (.here (.here (.here (.nil (Nat.zero_le _))))))))))))) ?_)
    clear hst; intro w hst
    refine ⟨hst.held (.cons_cons _ (.cons _ (.cons _ (.cons _ (.cons _ (.cons_cons _ (.slnil))))))), ?_⟩
    refine h_one (i := 4) (by kernel_rfl) rfl rfl (r_store hst rfl rfl rfl Tsz58 rfl (.tail (.tail (.tail (.head (.here (.here (.here (.here (.here (.here (.nil (Nat.zero_le _)))))))))))) ?_)
    clear hst; intro w hst
    refine ⟨hst.held (.cons_cons _ (.cons _ (.cons _ (.cons _ (.cons _ (.cons_cons _ (.slnil))))))), ?_⟩
    refine h_done (by kernel_rfl) ?_
    refine then_n ?_
    refine wp_ret ?_
    refine then_r ?_
    refine x_ret (rs := [.cell 2 48, .cell 3 58]) hst rfl (.agg rfl Ta48 (.tail _ (.tail _ (.tail _ (.tail _ (.head _))))) rfl (.agg rfl Ta58 (.tail _ (.tail _ (.tail _ (.head _)))) rfl (.nil))) ?_
    first | exact ⟨_, _, _, _, _, _, _, _, _, _, _, _, _, rfl, by grind, by grind, by grind, ERep.of_sl (args := []) (Sl.nil _ _ _ _ _)⟩
  try simp at hc4
  try (have hz := hb1; simp [hc4] at hz)
  refine wp_skip ?_
  refine then_n ?_
  refine wp_seq ?_
  refine wp_region_lit ?_
  refine l_op rfl (r_loada hst rfl Ta48 (.tail _ (.tail _ (.tail _ (.tail _ (.tail _ (.head _)))))) (.cons rfl (.cons rfl (.cons rfl (.cons rfl (.cons rfl (.cons rfl (.nil))))))) rfl rfl ?_)
  clear hst; intro a hst
  refine l_op rfl (r_call (xs := [(Operand.tmp 46)]) hst rfl Ten63 (down_c _ _ _ _ _ (by omega) hn (by first | exact hst.fact | exact hst.fact.2 | exact hst.fact.2.2 | exact hst.fact.2.2.2 | exact hst.fact.2.2.2.2) (by omega) (by omega) (by omega)) rfl ?_)
  clear hst; rintro a _ w U ⟨i3, d3, b3, x3, y3, rfl, hd3⟩ hst
  refine l_op rfl (r_alloc hst Tz48 rfl ?_)
  clear hst; intro a w g7 hst
  refine l_op rfl (r_store hst rfl rfl rfl Tsz48 rfl (.head (.here (.here (.here (.here (.here (.here (.nil (Nat.zero_le _))))))))) ?_)
  clear hst; intro w hst
  refine wpList_nil ?_
  refine then_n ?_
  refine wp_seq ?_
  refine wp_region_lit ?_
  refine l_op rfl (r_loada hst rfl Ta48 (.head _) (.cons rfl (.cons rfl (.cons rfl (.cons rfl (.cons rfl (.cons rfl (.nil))))))) rfl rfl ?_)
  clear hst; intro a hst
  refine l_op rfl (r_call (xs := [(Operand.tmp 48)]) hst rfl Ten12 (now_c _ _ _ _ _ (by omega) hn (by first | exact hst.fact | exact hst.fact.2 | exact hst.fact.2.2 | exact hst.fact.2.2.2 | exact hst.fact.2.2.2.2)) rfl ?_)
  clear hst; rintro a _ w U ⟨k1, m1, p1, q1, s1, rfl, hk1⟩ hst
  refine l_op rfl (r_fields hst rfl Tfs50_0 rfl rfl ?_)
  clear hst; intro a hst
  refine l_op rfl (r_bin hst rfl rfl rfl rfl rfl ?_)
  clear hst; intro a hst
  refine l_op rfl (r_assign hst rfl rfl ?_)
  clear hst; intro a hst
  refine wpList_nil ?_
  refine then_n ?_
  refine wp_seq ?_
  refine wp_region_lit ?_
  refine l_op rfl (r_loada hst rfl Ta48 (.head _) (.cons rfl (.cons rfl (.cons rfl (.cons rfl (.cons rfl (.cons rfl (.nil))))))) rfl rfl ?_)
  clear hst; intro a hst
  refine l_op rfl (r_call (xs := [(Operand.tmp 53)]) hst rfl Ten42 (ih _ (Nat.lt_of_lt_of_le (mu_lt (by grind) (by omega) (by omega) (by grind)) hmu) _ _ _ _ _ _ _ (by omega) (by omega) (by omega) (by omega) (Nat.le_refl _) (by first | exact hst.fact | exact hst.fact.2 | exact hst.fact.2.2 | exact hst.fact.2.2.2 | exact hst.fact.2.2.2.2)) rfl ?_)
  clear hst; rintro a _ w U ⟨i9, b9, x9, y9, k9, m9, p9, q9, s9, B9, l9, c9, t9, rfl, h9a, h9b, h9c, h9⟩ hst
  have hst := hst.addFact (ERep.mono _ _) h9
  refine l_op rfl (r_move hst rfl rfl ?_)
  clear hst; intro a hst
  refine l_op rfl (r_extract hst rfl rfl rfl ?_)
  clear hst; intro a hst
  refine l_op rfl (r_extract hst rfl rfl rfl ?_)
  clear hst; intro a hst
  refine l_op rfl (r_alloc hst Tz48 rfl ?_)
  clear hst; intro a w g8 hst
  refine l_op rfl (r_alloc hst Tz58 rfl ?_)
  clear hst; intro a w g9 hst
  refine l_op rfl (r_store hst rfl rfl rfl Tsz48 rfl (.tail (.head (.here (.here (.here (.here (.here (.here (.nil (Nat.zero_le _)))))))))) ?_)
  clear hst; intro w hst
  refine l_op rfl (r_store hst rfl rfl rfl Tsz58 rfl (.head (.here (.here (.here (.here (.here (.here (.nil (Nat.zero_le _))))))))) ?_)
  clear hst; intro w hst
  refine wpList_nil ?_
  refine then_n ?_
  refine wp_seq ?_
  refine wp_region_lit ?_
  refine l_op rfl (r_loada hst rfl Ta58 (.head _) (.cons rfl (.cons rfl (.cons rfl (.cons rfl (.cons rfl (.cons rfl (.nil))))))) rfl rfl ?_)
  clear hst; intro a hst
  refine l_op rfl (r_slice1 hst Tu56 Tsz58 Tz58 rfl (by decide) (by decide) rfl rfl rfl rfl ?_)
  clear hst; intro a w g10 hst
  refine l_op rfl (r_assign hst rfl rfl ?_)
  clear hst; intro a hst
  refine wpList_nil ?_
  refine then_n ?_
  refine wp_seq ?_
  refine wp_block ?_
  obtain ⟨U1, hext1, hcont1, hst⟩ := hst.enrow_ (m := 1) (sz := 6) (.head) rfl (by decide) (by decide) (by decide)
  have hst := ((hst.keep (ds := [1, 2, 3, 8, 9, 10, 11]) (.cons rfl (.cons rfl (.cons rfl (.cons rfl (.cons rfl (.cons rfl (.cons rfl (.nil))))))))).drop (.cons_cons _ (.cons_cons _ (.cons _ (.cons _ (.cons _ (.cons _ (.cons_cons _ (.cons_cons _ (.cons_cons _ (.slnil)))))))))))
  have hst := hst.newFact (G := fun w U => ((Cont (.slice (some ⟨g10, 0, none⟩) 1 1) [.int .i64 k9, .string s9, .int .i64 m9, .slice B9 l9 c9, .int .i64 p9, .int .i64 q9] w U ∧ Flat kE [.int .i64 k9, .string s9, .int .i64 m9, .slice B9 l9 c9, .int .i64 p9, .int .i64 q9] [t9] w U) ∧ ERep w U [.int .i64 k9, .string s9, .int .i64 m9, .slice B9 l9 c9, .int .i64 p9, .int .i64 q9] t9) ∧ Toks A n w U) ((Mono.and (Mono.and (Mono.and (Cont.mono _ _) (Flat.mono kE _ _)) (ERep.mono _ _)) (Toks.mono A n))) ⟨⟨⟨hcont1, Flat.one hst.fact.1⟩, hst.fact.1⟩, hst.fact.2⟩
  refine wp_loop_ghost (InvPat _ _ A n c i d b x y _ k9 m9 p9 q9 s9 B9 l9 c9 t9 g1 g2 g3 g8 g9) (mu n i9 b9) ⟨_, _, _, _, _, _, _, _, _, _, _, hst, by omega, by omega, by omega, by omega, rfl, by omega, rfl, by have := mu_bd n i9 b9 (by omega); omega, by grind, rfl⟩ ?_
  clear hst
  rintro m a w ⟨U, i', d', x', y', b', B, l, cc, xs, ts, hst, hi1, hi2, hd1, hd2, hl, hcc, hxl, hlm, hbb, rfl⟩
  refine wp_seq ?_
  refine wp_seq ?_
  refine wp_region_lit ?_
  refine l_op rfl (r_move hst rfl rfl ?_)
  clear hst; intro a hst
  refine l_op rfl (r_move hst rfl rfl ?_)
  clear hst; intro a hst
  refine hst.split (t := 60) rfl (fun hc5 hst => ?_) (fun hc5 hst => ?_)
  · try simp at hc5
    try (have hz := hb1; simp [hc5] at hz)
    refine l_on hst rfl rfl rfl (r_fieldAddr hst rfl Tf48_3 rfl ?_)
    clear hst; intro a hst
    refine l_on hst rfl rfl rfl (r_loads hst rfl Ts4 (.tail _ (.head _)) rfl rfl ?_)
    clear hst; intro a hst
    refine l_on hst rfl rfl rfl (r_not hst rfl rfl ?_)
    clear hst; intro a hst
    refine l_op rfl (r_pick hst rfl rfl rfl ?_)
    clear hst; intro a hst
    refine l_op rfl (r_move hst rfl rfl ?_)
    clear hst; intro a hst
    refine hst.split (t := 65) rfl (fun hc6 hst => ?_) (fun hc6 hst => ?_)
    · try simp at hc6
      try (have hz := hb1; simp [hc6] at hz)
      refine l_on hst rfl rfl rfl (r_loada hst rfl Ta48 (.tail _ (.head _)) (.cons rfl (.cons rfl (.cons rfl (.cons rfl (.cons rfl (.cons rfl (.nil))))))) rfl rfl ?_)
      clear hst; intro a hst
      refine l_on hst rfl rfl rfl (r_call (xs := [(Operand.tmp 66), (Operand.const (Value.int IntKind.i64 6)), (Operand.const (Value.string { data := #[41] }))]) hst rfl Ten14 (is_c _ _ _ _ _ _ _ (by omega) hn (by first | exact hst.fact | exact hst.fact.2 | exact hst.fact.2.2 | exact hst.fact.2.2.2 | exact hst.fact.2.2.2.2) (by decide)) rfl ?_)
      clear hst; rintro a _ w U ⟨b1, rfl, hb1⟩ hst
      refine l_on hst rfl rfl rfl (r_not hst rfl rfl ?_)
      clear hst; intro a hst
      refine l_op rfl (r_pick hst rfl rfl rfl ?_)
      clear hst; intro a hst
      refine wpList_nil ?_
      refine then_n ?_
      refine x_cond hst rfl (fun hc7 => ?_) (fun hc7 => ?_)
      · try simp at hc7
        try (have hz := hb1; simp [hc7] at hz)
        refine wp_skip ?_
        refine then_n ?_
        refine wp_block ?_
        refine wp_seq ?_
        refine wp_region_lit ?_
        refine l_op rfl (r_loada hst rfl Ta48 (.tail _ (.head _)) (.cons rfl (.cons rfl (.cons rfl (.cons rfl (.cons rfl (.cons rfl (.nil))))))) rfl rfl ?_)
        clear hst; intro a hst
        refine l_op rfl (r_call (xs := [(Operand.tmp 71)]) hst rfl Ten42 (ih _ (Nat.lt_of_lt_of_le (mu_lt (by grind) (by omega) (by omega) (by grind)) hmu) _ _ _ _ _ _ _ (by omega) (by omega) (by omega) (by omega) (Nat.le_refl _) (by first | exact hst.fact | exact hst.fact.2 | exact hst.fact.2.2 | exact hst.fact.2.2.2 | exact hst.fact.2.2.2.2)) rfl ?_)
        clear hst; rintro a _ w U ⟨i10, b10, x10, y10, k10, m10, p10, q10, s10, B10, l10, c10, t10, rfl, h10a, h10b, h10c, h10⟩ hst
        have hst := hst.addFact (ERep.mono _ _) h10
        refine l_op rfl (r_move hst rfl rfl ?_)
        clear hst; intro a hst
        refine l_op rfl (r_extract hst rfl rfl rfl ?_)
        clear hst; intro a hst
        refine l_op rfl (r_extract hst rfl rfl rfl ?_)
        clear hst; intro a hst
        refine l_op rfl (r_alloc hst Tz48 rfl ?_)
        clear hst; intro a w g11 hst
        refine l_op rfl (r_alloc hst Tz58 rfl ?_)
        clear hst; intro a w g12 hst
        refine l_op rfl (r_store hst rfl rfl rfl Tsz48 rfl (.tail (.head (.here (.here (.here (.here (.here (.here (.nil (Nat.zero_le _)))))))))) ?_)
        clear hst; intro w hst
        refine l_op rfl (r_store hst rfl rfl rfl Tsz58 rfl (.head (.here (.here (.here (.here (.here (.here (.nil (Nat.zero_le _))))))))) ?_)
        clear hst; intro w hst
        refine wpList_nil ?_
        refine then_n ?_
        refine wp_seq ?_
        refine wp_region_lit ?_
        refine l_op rfl (r_loada hst rfl Ta48 (.tail _ (.head _)) (.cons rfl (.cons rfl (.cons rfl (.cons rfl (.cons rfl (.cons rfl (.nil))))))) rfl rfl ?_)
        clear hst; intro a hst
        refine l_op rfl (r_store hst rfl rfl rfl Tsz48 rfl (.tail (.tail (.tail (.head (.here (.here (.here (.here (.here (.here (.nil (Nat.zero_le _)))))))))))) ?_)
        clear hst; intro w hst
        refine wpList_nil ?_
        refine then_n ?_
        refine wp_region_lit ?_
        refine l_op rfl (r_move hst rfl rfl ?_)
        clear hst; intro a hst
        refine l_op rfl (r_loada hst rfl Ta58 (.head _) (.cons rfl (.cons rfl (.cons rfl (.cons rfl (.cons rfl (.cons rfl (.nil))))))) rfl rfl ?_)
        clear hst; intro a hst
        refine l_op rfl (r_slice1 hst Tu56 Tsz58 Tz58 rfl (by decide) (by decide) rfl rfl rfl rfl ?_)
        clear hst; intro a w g13 hst
        refine l_op rfl (r_append hst rfl rfl Tet56 (.head _) rfl (by decide) rfl hst.fact.2.1.1.1 hxl (by omega) (by omega) rfl ?_)
        clear hst; intro a v w U hext hcont hv hst
        obtain ⟨B2, c2, rfl, hcc2⟩ := hv
        refine l_op rfl (r_assign hst rfl rfl ?_)
        clear hst; intro a hst
        refine wpList_nil ?_
        refine inb_n ?_
        have hst := ((hst.keep (ds := [1, 2, 3, 8, 9, 10, 11]) (.cons rfl (.cons rfl (.cons rfl (.cons rfl (.cons rfl (.cons rfl (.cons rfl (.nil))))))))).drop (.cons _ (.cons _ (.cons _ (.cons_cons _ (.cons_cons _ (.cons_cons _ (.cons_cons _ (.cons_cons _ (.slnil))))))))))
        have hfl := Flat.snoc hst.fact.2.1.1.2 hst.fact.1
        have hst := hst.newFact ((Mono.and (Mono.and (Mono.and (Cont.mono _ _) (Flat.mono kE _ _)) (ERep.mono _ _)) (Toks.mono A n))) ⟨⟨⟨hcont, hfl⟩, hst.fact.2.1.2⟩, hst.fact.2.2⟩
        have hmm : mu n i10 b10 < mu n i' b' := mu_lt (by grind) (by omega) (by omega) (by grind)
        exact then_k ⟨mu n i10 b10, hmm, _, i10, _, x10, y10, b10, _, _, _, _, _, hst, by omega, by omega, by omega, by omega, by simp [hl], hcc2, by simp [hxl]; omega, by omega, by grind, rfl⟩
      try simp at hc7
      try (have hz := hb1; simp [hc7] at hz)
      refine wp_exit ?_
      refine then_x ?_
      refine then_x ?_
      refine inb_hit ?_
      refine then_n ?_
      refine wp_seq ?_
      refine wp_region_lit ?_
      refine l_op rfl (r_loada hst rfl Ta48 (.tail _ (.head _)) (.cons rfl (.cons rfl (.cons rfl (.cons rfl (.cons rfl (.cons rfl (.nil))))))) rfl rfl ?_)
      clear hst; intro a hst
      refine l_op rfl (r_call (xs := [(Operand.tmp 80), (Operand.const (Value.int IntKind.i64 6)), (Operand.const (Value.string { data := #[41] }))]) hst rfl Ten13 (take_c _ _ _ _ _ _ _ (by omega) hn (by first | exact hst.fact | exact hst.fact.2 | exact hst.fact.2.2 | exact hst.fact.2.2.2 | exact hst.fact.2.2.2.2) (by omega) (by decide)) rfl ?_)
      clear hst; rintro a _ w U ⟨i1, b1, x1, y1, rfl, ht1⟩ hst
      refine l_op rfl (r_store hst rfl rfl rfl Tsz48 rfl (.tail (.head (.here (.here (.here (.here (.here (.here (.nil (Nat.zero_le _)))))))))) ?_)
      clear hst; intro w hst
      refine wpList_nil ?_
      refine then_n ?_
      refine wp_seq ?_
      refine wp_region_lit ?_
      refine l_op rfl (r_fieldAddr hst rfl Tf48_2 rfl ?_)
      clear hst; intro a hst
      refine l_op rfl (r_loads hst rfl Ts3 (.tail _ (.tail _ (.tail _ (.tail _ (.head _))))) rfl rfl ?_)
      clear hst; intro a hst
      refine l_op rfl (r_fieldAddr hst rfl Tf48_2 rfl ?_)
      clear hst; intro a hst
      refine l_op rfl (r_store hst rfl rfl rfl Tsz3 rfl (.tail (.head (.there (.there (.here (.nil (Nat.zero_le _))))))) ?_)
      clear hst; intro w hst
      refine wpList_nil ?_
      refine then_n ?_
      refine wp_seq ?_
      refine wp_seq ?_
      refine wp_region_lit ?_
      refine l_op rfl (r_move hst rfl rfl ?_)
      clear hst; intro a hst
      refine l_op rfl (r_lensl hst rfl Tu56 rfl ?_)
      clear hst; intro a hst
      refine l_op rfl (r_bin hst rfl rfl rfl rfl rfl ?_)
      clear hst; intro a hst
      refine wpList_nil ?_
      refine then_n ?_
      refine x_cond hst rfl (fun hc8 => ?_) (fun hc8 => ?_)
      · try simp at hc8
        try (have hz := hb1; simp [hc8] at hz)
        refine wp_seq ?_
        refine x_drawh (by kernel_rfl) hst (.cons_cons _ (.cons_cons _ (.cons _ (.cons _ (.cons _ (.slnil)))))) ?_
        clear hst; intro w hst
        refine h_take (i := 0) hst (.cons_cons _ (.cons_cons _ (.cons _ (.cons _ (.cons _ (.slnil)))))) rfl rfl rfl rfl (by kernel_rfl) (by kernel_rfl) (by kernel_rfl) (fun _ _ _ h => h) (fun _ _ _ _ hst => q_loada hst rfl Ta48 (.tail _ (.head _)) (.cons rfl (.cons rfl (.cons rfl (.cons rfl (.cons rfl (.cons rfl (.nil))))))) rfl) ?_
        clear hst; intro a hst
        refine h_take (i := 1) hst (.cons_cons _ (.cons_cons _ (.cons _ (.cons _ (.cons _ (.slnil)))))) rfl rfl rfl rfl (by kernel_rfl) (by kernel_rfl) (by kernel_rfl) (fun _ _ _ h => h) (fun _ _ _ _ hst => q_loada hst rfl Ta58 (.head _) (.cons rfl (.cons rfl (.cons rfl (.cons rfl (.cons rfl (.cons rfl (.nil))))))) rfl) ?_
        clear hst; intro a hst
        refine h_one (i := 2) (by kernel_rfl) rfl rfl (r_store hst rfl rfl rfl Tsz48 rfl (.tail (.tail (.tail (.head (.here (.here (.here (.here (.here (.here (.nil (Nat.zero_le _)))))))))))) ?_)
        clear hst; intro w hst
        refine ⟨hst.held (.cons_cons _ (.cons_cons _ (.cons _ (.cons _ (.cons _ (.slnil)))))), ?_⟩
        refine h_one (i := 3) (by kernel_rfl) rfl rfl (r_store hst rfl rfl rfl Tsz58 rfl (.tail (.tail (.head (.here (.here (.here (.here (.here (.here (.nil (Nat.zero_le _))))))))))) ?_)
        clear hst; intro w hst
        refine ⟨hst.held (.cons_cons _ (.cons_cons _ (.cons _ (.cons _ (.cons _ (.slnil)))))), ?_⟩
        refine h_done (by kernel_rfl) ?_
        refine then_n ?_
        refine wp_ret ?_
        refine then_r ?_
        refine x_ret (rs := [.cell 2 48, .cell 3 58]) hst rfl (.agg rfl Ta48 (.tail _ (.tail _ (.tail _ (.head _)))) rfl (.agg rfl Ta58 (.tail _ (.tail _ (.head _))) rfl (.nil))) ?_
        first | exact ⟨_, _, _, _, _, _, _, _, _, _, _, _, _, rfl, by grind, by grind, by grind, hst.fact.1.2⟩
      try simp at hc8
      try (have hz := hb1; simp [hc8] at hz)
      refine wp_skip ?_
      refine then_n ?_
      refine wp_seq ?_
      refine x_drawh (by kernel_rfl) hst (.cons_cons _ (.cons_cons _ (.cons _ (.cons _ (.cons _ (.slnil)))))) ?_
      clear hst; intro w hst
      refine h_take (i := 0) hst (.cons_cons _ (.cons_cons _ (.cons _ (.cons _ (.cons _ (.slnil)))))) rfl rfl rfl rfl (by kernel_rfl) (by kernel_rfl) (by kernel_rfl) (fun _ _ _ h => h) (fun _ _ _ _ hst => q_loada hst rfl Ta48 (.tail _ (.head _)) (.cons rfl (.cons rfl (.cons rfl (.cons rfl (.cons rfl (.cons rfl (.nil))))))) rfl) ?_
      clear hst; intro a hst
      refine h_take (i := 1) hst (.cons_cons _ (.cons_cons _ (.cons _ (.cons _ (.cons _ (.slnil)))))) rfl rfl rfl rfl (by kernel_rfl) (by kernel_rfl) (by kernel_rfl) (fun _ _ _ h => h) (fun _ _ _ _ hst => q_move hst rfl) ?_
      clear hst; intro a hst
      refine h_take (i := 2) hst (.cons_cons _ (.cons_cons _ (.cons _ (.cons _ (.cons _ (.slnil)))))) rfl rfl rfl rfl (by kernel_rfl) (by kernel_rfl) (by kernel_rfl) (fun _ _ _ h => h) (fun _ _ _ _ hst => q_fieldAddr hst rfl Tf58_4) ?_
      clear hst; intro a hst
      refine h_take (i := 3) hst (.cons_cons _ (.cons_cons _ (.cons _ (.cons _ (.cons _ (.slnil)))))) rfl rfl rfl rfl (by kernel_rfl) (by kernel_rfl) (by kernel_rfl) (fun _ _ _ h => h) (fun _ _ _ _ hst => q_loada hst rfl Ta28 (.head _) (.cons rfl (.cons rfl (.nil))) rfl) ?_
      clear hst; intro a hst
      refine h_take (i := 4) hst (.cons_cons _ (.cons_cons _ (.cons _ (.cons _ (.cons _ (.slnil)))))) rfl rfl rfl rfl (by kernel_rfl) (by kernel_rfl) (by kernel_rfl) (fun _ _ _ h => h) (fun _ _ _ _ hst => q_build (ps := [(0, (Operand.const (Value.int IntKind.i64 4))), (3, (Operand.tmp 91)), (4, (Operand.tmp 93))]) hst Tso58 Tz58 (.cons Tf58_0 rfl rfl (.here (.nil (Nat.zero_le _))) (.cons Tf58_3 rfl rfl (.there (.there (.there (.here (.nil (Nat.zero_le _)))))) (.cons Tf58_4 rfl rfl (.there (.there (.there (.there (.here (.here (.nil (Nat.zero_le _)))))))) (.nil))))) ?_
      clear hst; intro a hst
      refine h_one (i := 5) (by kernel_rfl) rfl rfl (r_store hst rfl rfl rfl Tsz48 rfl (.tail (.tail (.tail (.head (.here (.here (.here (.here (.here (.here (.nil (Nat.zero_le _)))))))))))) ?_)
      clear hst; intro w hst
      refine ⟨hst.held (.cons_cons _ (.cons_cons _ (.cons _ (.cons _ (.cons _ (.slnil)))))), ?_⟩
      refine h_one (i := 6) (by kernel_rfl) rfl rfl (r_store hst rfl rfl rfl Tsz58 rfl (.tail (.tail (.head (.here (.here (.here (.here (.here (.here (.nil (Nat.zero_le _))))))))))) ?_)
      clear hst; intro w hst
      refine ⟨hst.held (.cons_cons _ (.cons_cons _ (.cons _ (.cons _ (.cons _ (.slnil)))))), ?_⟩
      refine h_done (by kernel_rfl) ?_
      refine then_n ?_
      refine wp_ret ?_
      refine x_ret (rs := [.cell 2 48, .cell 3 58]) hst rfl (.agg rfl Ta48 (.tail _ (.tail _ (.tail _ (.head _)))) rfl (.agg rfl Ta58 (.tail _ (.tail _ (.head _))) rfl (.nil))) ?_
      first | exact ⟨_, _, _, _, _, _, _, _, _, _, _, _, _, rfl, by grind, by grind, by grind, (ERep.of_sl (Sl.of_flat hst.fact.1.1.1 hst.fact.1.1.2 hl hcc))⟩
    try simp at hc6
    try (have hz := hb1; simp [hc6] at hz)
    refine l_off hst rfl rfl rfl (by decide) rfl rfl ?_
    clear hst; intro a hst
    refine l_off hst rfl rfl rfl (by decide) rfl rfl ?_
    clear hst; intro a hst
    refine l_off hst rfl rfl rfl (by decide) rfl rfl ?_
    clear hst; intro a hst
    refine l_op rfl (r_pick hst rfl rfl rfl ?_)
    clear hst; intro a hst
    refine wpList_nil ?_
    refine then_n ?_
    refine x_cond_f hst rfl ?_
    refine wp_exit ?_
    refine then_x ?_
    refine then_x ?_
    refine inb_hit ?_
    refine then_n ?_
    refine wp_seq ?_
    refine wp_region_lit ?_
    refine l_op rfl (r_loada hst rfl Ta48 (.tail _ (.head _)) (.cons rfl (.cons rfl (.cons rfl (.cons rfl (.cons rfl (.cons rfl (.nil))))))) rfl rfl ?_)
    clear hst; intro a hst
    refine l_op rfl (r_call (xs := [(Operand.tmp 80), (Operand.const (Value.int IntKind.i64 6)), (Operand.const (Value.string { data := #[41] }))]) hst rfl Ten13 (take_c _ _ _ _ _ _ _ (by omega) hn (by first | exact hst.fact | exact hst.fact.2 | exact hst.fact.2.2 | exact hst.fact.2.2.2 | exact hst.fact.2.2.2.2) (by omega) (by decide)) rfl ?_)
    clear hst; rintro a _ w U ⟨i1, b1, x1, y1, rfl, ht1⟩ hst
    refine l_op rfl (r_store hst rfl rfl rfl Tsz48 rfl (.tail (.head (.here (.here (.here (.here (.here (.here (.nil (Nat.zero_le _)))))))))) ?_)
    clear hst; intro w hst
    refine wpList_nil ?_
    refine then_n ?_
    refine wp_seq ?_
    refine wp_region_lit ?_
    refine l_op rfl (r_fieldAddr hst rfl Tf48_2 rfl ?_)
    clear hst; intro a hst
    refine l_op rfl (r_loads hst rfl Ts3 (.tail _ (.tail _ (.tail _ (.tail _ (.head _))))) rfl rfl ?_)
    clear hst; intro a hst
    refine l_op rfl (r_fieldAddr hst rfl Tf48_2 rfl ?_)
    clear hst; intro a hst
    refine l_op rfl (r_store hst rfl rfl rfl Tsz3 rfl (.tail (.head (.there (.there (.here (.nil (Nat.zero_le _))))))) ?_)
    clear hst; intro w hst
    refine wpList_nil ?_
    refine then_n ?_
    refine wp_seq ?_
    refine wp_seq ?_
    refine wp_region_lit ?_
    refine l_op rfl (r_move hst rfl rfl ?_)
    clear hst; intro a hst
    refine l_op rfl (r_lensl hst rfl Tu56 rfl ?_)
    clear hst; intro a hst
    refine l_op rfl (r_bin hst rfl rfl rfl rfl rfl ?_)
    clear hst; intro a hst
    refine wpList_nil ?_
    refine then_n ?_
    refine x_cond hst rfl (fun hc9 => ?_) (fun hc9 => ?_)
    · try simp at hc9
      try (have hz := hb1; simp [hc9] at hz)
      refine wp_seq ?_
      refine x_drawh (by kernel_rfl) hst (.cons_cons _ (.cons_cons _ (.cons _ (.cons _ (.cons _ (.slnil)))))) ?_
      clear hst; intro w hst
      refine h_take (i := 0) hst (.cons_cons _ (.cons_cons _ (.cons _ (.cons _ (.cons _ (.slnil)))))) rfl rfl rfl rfl (by kernel_rfl) (by kernel_rfl) (by kernel_rfl) (fun _ _ _ h => h) (fun _ _ _ _ hst => q_loada hst rfl Ta48 (.tail _ (.head _)) (.cons rfl (.cons rfl (.cons rfl (.cons rfl (.cons rfl (.cons rfl (.nil))))))) rfl) ?_
      clear hst; intro a hst
      refine h_take (i := 1) hst (.cons_cons _ (.cons_cons _ (.cons _ (.cons _ (.cons _ (.slnil)))))) rfl rfl rfl rfl (by kernel_rfl) (by kernel_rfl) (by kernel_rfl) (fun _ _ _ h => h) (fun _ _ _ _ hst => q_loada hst rfl Ta58 (.head _) (.cons rfl (.cons rfl (.cons rfl (.cons rfl (.cons rfl (.cons rfl (.nil))))))) rfl) ?_
      clear hst; intro a hst
      refine h_one (i := 2) (by kernel_rfl) rfl rfl (r_store hst rfl rfl rfl Tsz48 rfl (.tail (.tail (.tail (.head (.here (.here (.here (.here (.here (.here (.nil (Nat.zero_le _)))))))))))) ?_)
      clear hst; intro w hst
      refine ⟨hst.held (.cons_cons _ (.cons_cons _ (.cons _ (.cons _ (.cons _ (.slnil)))))), ?_⟩
      refine h_one (i := 3) (by kernel_rfl) rfl rfl (r_store hst rfl rfl rfl Tsz58 rfl (.tail (.tail (.head (.here (.here (.here (.here (.here (.here (.nil (Nat.zero_le _))))))))))) ?_)
      clear hst; intro w hst
      refine ⟨hst.held (.cons_cons _ (.cons_cons _ (.cons _ (.cons _ (.cons _ (.slnil)))))), ?_⟩
      refine h_done (by kernel_rfl) ?_
      refine then_n ?_
      refine wp_ret ?_
      refine then_r ?_
      refine x_ret (rs := [.cell 2 48, .cell 3 58]) hst rfl (.agg rfl Ta48 (.tail _ (.tail _ (.tail _ (.head _)))) rfl (.agg rfl Ta58 (.tail _ (.tail _ (.head _))) rfl (.nil))) ?_
      first | exact ⟨_, _, _, _, _, _, _, _, _, _, _, _, _, rfl, by grind, by grind, by grind, hst.fact.1.2⟩
    try simp at hc9
    try (have hz := hb1; simp [hc9] at hz)
    refine wp_skip ?_
    refine then_n ?_
    refine wp_seq ?_
    refine x_drawh (by kernel_rfl) hst (.cons_cons _ (.cons_cons _ (.cons _ (.cons _ (.cons _ (.slnil)))))) ?_
    clear hst; intro w hst
    refine h_take (i := 0) hst (.cons_cons _ (.cons_cons _ (.cons _ (.cons _ (.cons _ (.slnil)))))) rfl rfl rfl rfl (by kernel_rfl) (by kernel_rfl) (by kernel_rfl) (fun _ _ _ h => h) (fun _ _ _ _ hst => q_loada hst rfl Ta48 (.tail _ (.head _)) (.cons rfl (.cons rfl (.cons rfl (.cons rfl (.cons rfl (.cons rfl (.nil))))))) rfl) ?_
    clear hst; intro a hst
    refine h_take (i := 1) hst (.cons_cons _ (.cons_cons _ (.cons _ (.cons _ (.cons _ (.slnil)))))) rfl rfl rfl rfl (by kernel_rfl) (by kernel_rfl) (by kernel_rfl) (fun _ _ _ h => h) (fun _ _ _ _ hst => q_move hst rfl) ?_
    clear hst; intro a hst
    refine h_take (i := 2) hst (.cons_cons _ (.cons_cons _ (.cons _ (.cons _ (.cons _ (.slnil)))))) rfl rfl rfl rfl (by kernel_rfl) (by kernel_rfl) (by kernel_rfl) (fun _ _ _ h => h) (fun _ _ _ _ hst => q_fieldAddr hst rfl Tf58_4) ?_
    clear hst; intro a hst
    refine h_take (i := 3) hst (.cons_cons _ (.cons_cons _ (.cons _ (.cons _ (.cons _ (.slnil)))))) rfl rfl rfl rfl (by kernel_rfl) (by kernel_rfl) (by kernel_rfl) (fun _ _ _ h => h) (fun _ _ _ _ hst => q_loada hst rfl Ta28 (.head _) (.cons rfl (.cons rfl (.nil))) rfl) ?_
    clear hst; intro a hst
    refine h_take (i := 4) hst (.cons_cons _ (.cons_cons _ (.cons _ (.cons _ (.cons _ (.slnil)))))) rfl rfl rfl rfl (by kernel_rfl) (by kernel_rfl) (by kernel_rfl) (fun _ _ _ h => h) (fun _ _ _ _ hst => q_build (ps := [(0, (Operand.const (Value.int IntKind.i64 4))), (3, (Operand.tmp 91)), (4, (Operand.tmp 93))]) hst Tso58 Tz58 (.cons Tf58_0 rfl rfl (.here (.nil (Nat.zero_le _))) (.cons Tf58_3 rfl rfl (.there (.there (.there (.here (.nil (Nat.zero_le _)))))) (.cons Tf58_4 rfl rfl (.there (.there (.there (.there (.here (.here (.nil (Nat.zero_le _)))))))) (.nil))))) ?_
    clear hst; intro a hst
    refine h_one (i := 5) (by kernel_rfl) rfl rfl (r_store hst rfl rfl rfl Tsz48 rfl (.tail (.tail (.tail (.head (.here (.here (.here (.here (.here (.here (.nil (Nat.zero_le _)))))))))))) ?_)
    clear hst; intro w hst
    refine ⟨hst.held (.cons_cons _ (.cons_cons _ (.cons _ (.cons _ (.cons _ (.slnil)))))), ?_⟩
    refine h_one (i := 6) (by kernel_rfl) rfl rfl (r_store hst rfl rfl rfl Tsz58 rfl (.tail (.tail (.head (.here (.here (.here (.here (.here (.here (.nil (Nat.zero_le _))))))))))) ?_)
    clear hst; intro w hst
    refine ⟨hst.held (.cons_cons _ (.cons_cons _ (.cons _ (.cons _ (.cons _ (.slnil)))))), ?_⟩
    refine h_done (by kernel_rfl) ?_
    refine then_n ?_
    refine wp_ret ?_
    refine x_ret (rs := [.cell 2 48, .cell 3 58]) hst rfl (.agg rfl Ta48 (.tail _ (.tail _ (.tail _ (.head _)))) rfl (.agg rfl Ta58 (.tail _ (.tail _ (.head _))) rfl (.nil))) ?_
    first | exact ⟨_, _, _, _, _, _, _, _, _, _, _, _, _, rfl, by grind, by grind, by grind, (ERep.of_sl (Sl.of_flat hst.fact.1.1.1 hst.fact.1.1.2 hl hcc))⟩
  try simp at hc5
  try (have hz := hb1; simp [hc5] at hz)
  refine l_off hst rfl rfl rfl (by decide) rfl rfl ?_
  clear hst; intro a hst
  refine l_off hst rfl rfl rfl (by decide) rfl rfl ?_
  clear hst; intro a hst
  refine l_off hst rfl rfl rfl (by decide) rfl rfl ?_
  clear hst; intro a hst
  refine l_op rfl (r_pick hst rfl rfl rfl ?_)
  clear hst; intro a hst
  refine l_op rfl (r_move hst rfl rfl ?_)
  clear hst; intro a hst
  refine l_off hst rfl rfl rfl (by decide) rfl rfl ?_
  clear hst; intro a hst
  refine l_off hst rfl rfl rfl (by decide) rfl rfl ?_
  clear hst; intro a hst
  refine l_off hst rfl rfl rfl (by decide) rfl rfl ?_
  clear hst; intro a hst
  refine l_op rfl (r_pick hst rfl rfl rfl ?_)
  clear hst; intro a hst
  refine wpList_nil ?_
  refine then_n ?_
  refine x_cond_f hst rfl ?_
  refine wp_exit ?_
  refine then_x ?_
  refine then_x ?_
  refine inb_hit ?_
  refine then_n ?_
  refine wp_seq ?_
  refine wp_region_lit ?_
  refine l_op rfl (r_loada hst rfl Ta48 (.tail _ (.head _)) (.cons rfl (.cons rfl (.cons rfl (.cons rfl (.cons rfl (.cons rfl (.nil))))))) rfl rfl ?_)
  clear hst; intro a hst
  refine l_op rfl (r_call (xs := [(Operand.tmp 80), (Operand.const (Value.int IntKind.i64 6)), (Operand.const (Value.string { data := #[41] }))]) hst rfl Ten13 (take_c _ _ _ _ _ _ _ (by omega) hn (by first | exact hst.fact | exact hst.fact.2 | exact hst.fact.2.2 | exact hst.fact.2.2.2 | exact hst.fact.2.2.2.2) (by omega) (by decide)) rfl ?_)
  clear hst; rintro a _ w U ⟨i1, b1, x1, y1, rfl, ht1⟩ hst
  refine l_op rfl (r_store hst rfl rfl rfl Tsz48 rfl (.tail (.head (.here (.here (.here (.here (.here (.here (.nil (Nat.zero_le _)))))))))) ?_)
  clear hst; intro w hst
  refine wpList_nil ?_
  refine then_n ?_
  refine wp_seq ?_
  refine wp_region_lit ?_
  refine l_op rfl (r_fieldAddr hst rfl Tf48_2 rfl ?_)
  clear hst; intro a hst
  refine l_op rfl (r_loads hst rfl Ts3 (.tail _ (.tail _ (.tail _ (.tail _ (.head _))))) rfl rfl ?_)
  clear hst; intro a hst
  refine l_op rfl (r_fieldAddr hst rfl Tf48_2 rfl ?_)
  clear hst; intro a hst
  refine l_op rfl (r_store hst rfl rfl rfl Tsz3 rfl (.tail (.head (.there (.there (.here (.nil (Nat.zero_le _))))))) ?_)
  clear hst; intro w hst
  refine wpList_nil ?_
  refine then_n ?_
  refine wp_seq ?_
  refine wp_seq ?_
  refine wp_region_lit ?_
  refine l_op rfl (r_move hst rfl rfl ?_)
  clear hst; intro a hst
  refine l_op rfl (r_lensl hst rfl Tu56 rfl ?_)
  clear hst; intro a hst
  refine l_op rfl (r_bin hst rfl rfl rfl rfl rfl ?_)
  clear hst; intro a hst
  refine wpList_nil ?_
  refine then_n ?_
  refine x_cond hst rfl (fun hc10 => ?_) (fun hc10 => ?_)
  · try simp at hc10
    try (have hz := hb1; simp [hc10] at hz)
    refine wp_seq ?_
    refine x_drawh (by kernel_rfl) hst (.cons_cons _ (.cons_cons _ (.cons _ (.cons _ (.cons _ (.slnil)))))) ?_
    clear hst; intro w hst
    refine h_take (i := 0) hst (.cons_cons _ (.cons_cons _ (.cons _ (.cons _ (.cons _ (.slnil)))))) rfl rfl rfl rfl (by kernel_rfl) (by kernel_rfl) (by kernel_rfl) (fun _ _ _ h => h) (fun _ _ _ _ hst => q_loada hst rfl Ta48 (.tail _ (.head _)) (.cons rfl (.cons rfl (.cons rfl (.cons rfl (.cons rfl (.cons rfl (.nil))))))) rfl) ?_
    clear hst; intro a hst
    refine h_take (i := 1) hst (.cons_cons _ (.cons_cons _ (.cons _ (.cons _ (.cons _ (.slnil)))))) rfl rfl rfl rfl (by kernel_rfl) (by kernel_rfl) (by kernel_rfl) (fun _ _ _ h => h) (fun _ _ _ _ hst => q_loada hst rfl Ta58 (.head _) (.cons rfl (.cons rfl (.cons rfl (.cons rfl (.cons rfl (.cons rfl (.nil))))))) rfl) ?_
    clear hst; intro a hst
    refine h_one (i := 2) (by kernel_rfl) rfl rfl (r_store hst rfl rfl rfl Tsz48 rfl (.tail (.tail (.tail (.head (.here (.here (.here (.here (.here (.here (.nil (Nat.zero_le _)))))))))))) ?_)
    clear hst; intro w hst
    refine ⟨hst.held (.cons_cons _ (.cons_cons _ (.cons _ (.cons _ (.cons _ (.slnil)))))), ?_⟩
    refine h_one (i := 3) (by kernel_rfl) rfl rfl (r_store hst rfl rfl rfl Tsz58 rfl (.tail (.tail (.head (.here (.here (.here (.here (.here (.here (.nil (Nat.zero_le _))))))))))) ?_)
    clear hst; intro w hst
    refine ⟨hst.held (.cons_cons _ (.cons_cons _ (.cons _ (.cons _ (.cons _ (.slnil)))))), ?_⟩
    refine h_done (by kernel_rfl) ?_
    refine then_n ?_
    refine wp_ret ?_
    refine then_r ?_
    refine x_ret (rs := [.cell 2 48, .cell 3 58]) hst rfl (.agg rfl Ta48 (.tail _ (.tail _ (.tail _ (.head _)))) rfl (.agg rfl Ta58 (.tail _ (.tail _ (.head _))) rfl (.nil))) ?_
    first | exact ⟨_, _, _, _, _, _, _, _, _, _, _, _, _, rfl, by grind, by grind, by grind, hst.fact.1.2⟩
  try simp at hc10
  try (have hz := hb1; simp [hc10] at hz)
  refine wp_skip ?_
  refine then_n ?_
  refine wp_seq ?_
  refine x_drawh (by kernel_rfl) hst (.cons_cons _ (.cons_cons _ (.cons _ (.cons _ (.cons _ (.slnil)))))) ?_
  clear hst; intro w hst
  refine h_take (i := 0) hst (.cons_cons _ (.cons_cons _ (.cons _ (.cons _ (.cons _ (.slnil)))))) rfl rfl rfl rfl (by kernel_rfl) (by kernel_rfl) (by kernel_rfl) (fun _ _ _ h => h) (fun _ _ _ _ hst => q_loada hst rfl Ta48 (.tail _ (.head _)) (.cons rfl (.cons rfl (.cons rfl (.cons rfl (.cons rfl (.cons rfl (.nil))))))) rfl) ?_
  clear hst; intro a hst
  refine h_take (i := 1) hst (.cons_cons _ (.cons_cons _ (.cons _ (.cons _ (.cons _ (.slnil)))))) rfl rfl rfl rfl (by kernel_rfl) (by kernel_rfl) (by kernel_rfl) (fun _ _ _ h => h) (fun _ _ _ _ hst => q_move hst rfl) ?_
  clear hst; intro a hst
  refine h_take (i := 2) hst (.cons_cons _ (.cons_cons _ (.cons _ (.cons _ (.cons _ (.slnil)))))) rfl rfl rfl rfl (by kernel_rfl) (by kernel_rfl) (by kernel_rfl) (fun _ _ _ h => h) (fun _ _ _ _ hst => q_fieldAddr hst rfl Tf58_4) ?_
  clear hst; intro a hst
  refine h_take (i := 3) hst (.cons_cons _ (.cons_cons _ (.cons _ (.cons _ (.cons _ (.slnil)))))) rfl rfl rfl rfl (by kernel_rfl) (by kernel_rfl) (by kernel_rfl) (fun _ _ _ h => h) (fun _ _ _ _ hst => q_loada hst rfl Ta28 (.head _) (.cons rfl (.cons rfl (.nil))) rfl) ?_
  clear hst; intro a hst
  refine h_take (i := 4) hst (.cons_cons _ (.cons_cons _ (.cons _ (.cons _ (.cons _ (.slnil)))))) rfl rfl rfl rfl (by kernel_rfl) (by kernel_rfl) (by kernel_rfl) (fun _ _ _ h => h) (fun _ _ _ _ hst => q_build (ps := [(0, (Operand.const (Value.int IntKind.i64 4))), (3, (Operand.tmp 91)), (4, (Operand.tmp 93))]) hst Tso58 Tz58 (.cons Tf58_0 rfl rfl (.here (.nil (Nat.zero_le _))) (.cons Tf58_3 rfl rfl (.there (.there (.there (.here (.nil (Nat.zero_le _)))))) (.cons Tf58_4 rfl rfl (.there (.there (.there (.there (.here (.here (.nil (Nat.zero_le _)))))))) (.nil))))) ?_
  clear hst; intro a hst
  refine h_one (i := 5) (by kernel_rfl) rfl rfl (r_store hst rfl rfl rfl Tsz48 rfl (.tail (.tail (.tail (.head (.here (.here (.here (.here (.here (.here (.nil (Nat.zero_le _)))))))))))) ?_)
  clear hst; intro w hst
  refine ⟨hst.held (.cons_cons _ (.cons_cons _ (.cons _ (.cons _ (.cons _ (.slnil)))))), ?_⟩
  refine h_one (i := 6) (by kernel_rfl) rfl rfl (r_store hst rfl rfl rfl Tsz58 rfl (.tail (.tail (.head (.here (.here (.here (.here (.here (.here (.nil (Nat.zero_le _))))))))))) ?_)
  clear hst; intro w hst
  refine ⟨hst.held (.cons_cons _ (.cons_cons _ (.cons _ (.cons _ (.cons _ (.slnil)))))), ?_⟩
  refine h_done (by kernel_rfl) ?_
  refine then_n ?_
  refine wp_ret ?_
  refine x_ret (rs := [.cell 2 48, .cell 3 58]) hst rfl (.agg rfl Ta48 (.tail _ (.tail _ (.tail _ (.head _)))) rfl (.agg rfl Ta58 (.tail _ (.tail _ (.head _))) rfl (.nil))) ?_
  first | exact ⟨_, _, _, _, _, _, _, _, _, _, _, _, _, rfl, by grind, by grind, by grind, (ERep.of_sl (Sl.of_flat hst.fact.1.1.1 hst.fact.1.1.2 hl hcc))⟩

theorem pat_all {A : Option Addr} {n c : Nat} (hn : n ≤ 1000000) (mm : Nat) : SExp 42 A n c mm := by
  induction mm using Nat.strongRecOn with
  | _ mm ih => exact fun w U i d x y b h0 hin hd0 hd hmu hT => pat_c hn mm ih i d x y b h0 hin hd0 hd hmu hT

theorem con_c {A : Option Addr} {n c : Nat} (hn : n ≤ 1000000) {w : World} {U : Mk} (i d x y : Int) (b : Bool) (h0 : 0 ≤ i) (hin : i ≤ n) (hd0 : 0 ≤ d) (hd : d ≤ 40) (hT : Toks A n w U) :
    CallsS Tryz.prog 41 [.agg #[.slice A n c, .int .i64 i, .int .i64 d, .bool b, .int .i64 x, .int .i64 y]] w U (fun v w' U' => ∃ (i2 : Int) (b2 : Bool) (x2 y2 p q : Int) (s : ByteArray) (B : Option Addr) (l c2 : Nat) (t : CoT), v = .tuple #[.agg #[.slice A n c, .int .i64 i2, .int .i64 d, .bool b2, .int .i64 x2, .int .i64 y2], .agg #[.string s, .slice B l c2, .int .i64 p, .int .i64 q]] ∧ i ≤ i2 ∧ i2 ≤ n ∧ (b2 = true ∨ (b = false ∧ i < i2)) ∧ kC.R [.string s, .slice B l c2, .int .i64 p, .int .i64 q] t w' U') := by
  refine x_enter (F := Toks A n) (n := 27) Tryz.func41 rfl rfl (by simp) (.cons (d := 0) rfl (.nil)) (Toks.mono A n) (hT) ?_
  intro a hst
  refine wp_seq ?_
  refine wp_region_lit ?_
  refine l_op rfl (r_box hst rfl rfl rfl ?_)
  clear hst; intro a w g1 hst
  refine l_op rfl (r_alloc hst Tz48 rfl ?_)
  clear hst; intro a w g2 hst
  refine l_op rfl (r_alloc hst Tz65 rfl ?_)
  clear hst; intro a w g3 hst
  refine wpList_nil ?_
  refine then_n ?_
  refine wp_seq ?_
  refine wp_region_lit ?_
  refine l_op rfl (r_loada hst rfl Ta48 (.tail _ (.tail _ (.head _))) (.cons rfl (.cons rfl (.cons rfl (.cons rfl (.cons rfl (.cons rfl (.nil))))))) rfl rfl ?_)
  clear hst; intro a hst
  refine l_op rfl (r_call (xs := [(Operand.tmp 9)]) hst rfl Ten12 (now_c _ _ _ _ _ (by omega) hn (by first | exact hst.fact | exact hst.fact.2 | exact hst.fact.2.2 | exact hst.fact.2.2.2 | exact hst.fact.2.2.2.2)) rfl ?_)
  clear hst; rintro a _ w U ⟨k1, m1, p1, q1, s1, rfl, hk1⟩ hst
  refine l_op rfl (r_fielda hst rfl Tfa50_3 (.cons rfl (.cons rfl (.nil))) rfl rfl ?_)
  clear hst; intro a hst
  refine l_op rfl (r_alloc hst Tz28 rfl ?_)
  clear hst; intro a w g4 hst
  refine l_op rfl (r_store hst rfl rfl rfl Tsz28 rfl (.head (.here (.here (.nil (Nat.zero_le _))))) ?_)
  clear hst; intro w hst
  refine wpList_nil ?_
  refine then_n ?_
  refine wp_seq ?_
  refine wp_region_lit ?_
  refine l_op rfl (r_loada hst rfl Ta48 (.tail _ (.tail _ (.tail _ (.head _)))) (.cons rfl (.cons rfl (.cons rfl (.cons rfl (.cons rfl (.cons rfl (.nil))))))) rfl rfl ?_)
  clear hst; intro a hst
  refine l_op rfl (r_call (xs := [(Operand.tmp 13), (Operand.const (Value.int IntKind.i64 3))]) hst rfl Ten40 (name_c _ _ _ _ _ _ (by omega) hn (by first | exact hst.fact | exact hst.fact.2 | exact hst.fact.2.2 | exact hst.fact.2.2.2 | exact hst.fact.2.2.2.2) (by omega) (by decide)) rfl ?_)
  clear hst; rintro a _ w U ⟨i2, b2, x2, y2, s2, rfl, hn2⟩ hst
  refine l_op rfl (r_move hst rfl rfl ?_)
  clear hst; intro a hst
  refine l_op rfl (r_extract hst rfl rfl rfl ?_)
  clear hst; intro a hst
  refine l_op rfl (r_extract hst rfl rfl rfl ?_)
  clear hst; intro a hst
  refine l_op rfl (r_alloc hst Tz48 rfl ?_)
  clear hst; intro a w g5 hst
  refine l_op rfl (r_store hst rfl rfl rfl Tsz48 rfl (.head (.here (.here (.here (.here (.here (.here (.nil (Nat.zero_le _))))))))) ?_)
  clear hst; intro w hst
  refine l_op rfl (r_assign hst rfl rfl ?_)
  clear hst; intro a hst
  refine wpList_nil ?_
  refine then_n ?_
  refine wp_seq ?_
  refine wp_region_lit ?_
  refine l_op rfl (r_loada hst rfl Ta48 (.head _) (.cons rfl (.cons rfl (.cons rfl (.cons rfl (.cons rfl (.cons rfl (.nil))))))) rfl rfl ?_)
  clear hst; intro a hst
  refine l_op rfl (r_call (xs := [(Operand.tmp 18)]) hst rfl Ten61 ((typ_types hn _).2 _ _ _ _ _ _ _ (by omega) (by omega) (by omega) (by omega) (Nat.le_refl _) (by first | exact hst.fact | exact hst.fact.2 | exact hst.fact.2.2 | exact hst.fact.2.2.2 | exact hst.fact.2.2.2.2)) rfl ?_)
  clear hst; rintro a _ w U ⟨i7, b7, x7, y7, B7, l7, c7, ts7, rfl, h7a, h7b, h7c, h7⟩ hst
  have hst := hst.addFact (Sl.mono _ _ _) h7
  refine l_op rfl (r_move hst rfl rfl ?_)
  clear hst; intro a hst
  refine l_op rfl (r_extract hst rfl rfl rfl ?_)
  clear hst; intro a hst
  refine l_op rfl (r_extract hst rfl rfl rfl ?_)
  clear hst; intro a hst
  refine l_op rfl (r_alloc hst Tz48 rfl ?_)
  clear hst; intro a w g6 hst
  refine l_op rfl (r_store hst rfl rfl rfl Tsz48 rfl (.head (.here (.here (.here (.here (.here (.here (.nil (Nat.zero_le _))))))))) ?_)
  clear hst; intro w hst
  refine l_op rfl (r_assign hst rfl rfl ?_)
  clear hst; intro a hst
  refine wpList_nil ?_
  refine then_n ?_
  refine wp_seq ?_
  refine x_drawh (by kernel_rfl) hst (.cons_cons _ (.cons _ (.cons_cons _ (.cons _ (.cons _ (.cons _ (.slnil))))))) ?_
  clear hst; intro w hst
  refine h_take (i := 0) hst (.cons_cons _ (.cons _ (.cons_cons _ (.cons _ (.cons _ (.cons _ (.slnil))))))) rfl rfl rfl rfl (by kernel_rfl) (by kernel_rfl) (by kernel_rfl) (fun _ _ _ h => h) (fun _ _ _ _ hst => q_loada hst rfl Ta48 (.head _) (.cons rfl (.cons rfl (.cons rfl (.cons rfl (.cons rfl (.cons rfl (.nil))))))) rfl) ?_
  clear hst; intro a hst
  refine h_take (i := 1) hst (.cons_cons _ (.cons _ (.cons_cons _ (.cons _ (.cons _ (.cons _ (.slnil))))))) rfl rfl rfl rfl (by kernel_rfl) (by kernel_rfl) (by kernel_rfl) (fun _ _ _ h => h) (fun _ _ _ _ hst => q_move hst rfl) ?_
  clear hst; intro a hst
  refine h_take (i := 2) hst (.cons_cons _ (.cons _ (.cons_cons _ (.cons _ (.cons _ (.cons _ (.slnil))))))) rfl rfl rfl rfl (by kernel_rfl) (by kernel_rfl) (by kernel_rfl) (fun _ _ _ h => h) (fun _ _ _ _ hst => q_move hst rfl) ?_
  clear hst; intro a hst
  refine h_take (i := 3) hst (.cons_cons _ (.cons _ (.cons_cons _ (.cons _ (.cons _ (.cons _ (.slnil))))))) rfl rfl rfl rfl (by kernel_rfl) (by kernel_rfl) (by kernel_rfl) (fun _ _ _ h => h) (fun _ _ _ _ hst => q_loada hst rfl Ta28 (.tail _ (.head _)) (.cons rfl (.cons rfl (.nil))) rfl) ?_
  clear hst; intro a hst
  refine h_take (i := 4) hst (.cons_cons _ (.cons _ (.cons_cons _ (.cons _ (.cons _ (.cons _ (.slnil))))))) rfl rfl rfl rfl (by kernel_rfl) (by kernel_rfl) (by kernel_rfl) (fun _ _ _ h => h) (fun _ _ _ _ hst => q_build (ps := [(0, (Operand.tmp 23)), (1, (Operand.tmp 24)), (2, (Operand.tmp 25))]) hst Tso65 Tz65 (.cons Tf65_0 rfl rfl (.here (.nil (Nat.zero_le _))) (.cons Tf65_1 rfl rfl (.there (.here (.nil (Nat.zero_le _)))) (.cons Tf65_2 rfl rfl (.there (.there (.here (.here (.nil (Nat.zero_le _)))))) (.nil))))) ?_
  clear hst; intro a hst
  refine h_one (i := 5) (by kernel_rfl) rfl rfl (r_store hst rfl rfl rfl Tsz48 rfl (.tail (.tail (.tail (.tail (.head (.here (.here (.here (.here (.here (.here (.nil (Nat.zero_le _))))))))))))) ?_)
  clear hst; intro w hst
  refine ⟨hst.held (.cons_cons _ (.cons _ (.cons_cons _ (.cons _ (.cons _ (.cons _ (.slnil))))))), ?_⟩
  refine h_one (i := 6) (by kernel_rfl) rfl rfl (r_store hst rfl rfl rfl Tsz65 rfl (.tail (.tail (.tail (.head (.here (.here (.here (.here (.nil (Nat.zero_le _)))))))))) ?_)
  clear hst; intro w hst
  refine ⟨hst.held (.cons_cons _ (.cons _ (.cons_cons _ (.cons _ (.cons _ (.cons _ (.slnil))))))), ?_⟩
  refine h_done (by kernel_rfl) ?_
  refine then_n ?_
  refine wp_ret ?_
  refine x_ret (rs := [.cell 2 48, .cell 3 65]) hst rfl (.agg rfl Ta48 (.tail _ (.tail _ (.tail _ (.tail _ (.head _))))) rfl (.agg rfl Ta65 (.tail _ (.tail _ (.tail _ (.head _)))) rfl (.nil))) ?_
  exact ⟨_, _, _, _, _, _, _, _, _, _, ⟨_, _⟩, rfl, by grind, by grind, by grind, ⟨_, _, _, _, rfl, rfl, hst.fact.1⟩⟩

/-- What holds at the head of the loop over a declaration's variables. -/
def InvVars (w0 : World) (U0 : Mk) (A : Option Addr) (n c : Nat) (i d : Int) (b : Bool) (nm : ByteArray) (p q : Int) (g2 g3 g4 g5 : Nat) (mz : Nat) (a : Act) (w : World) : Prop :=
  ∃ (U : Mk) (i' x' y' : Int) (b' : Bool) (B : Option Addr) (l cc : Nat) (xs : List Value) (ts : List (List UInt8)),
    Sta w0 U0 65 [(2, .pointer (some ⟨g2, 0, none⟩)), (3, .pointer (some ⟨g3, 0, none⟩)), (4, .pointer (some ⟨g4, 0, none⟩)), (5, .pointer (some ⟨g5, 0, none⟩))] [⟨g5, 48, [.slice A n c, .int .i64 i', .int .i64 d, .bool b', .int .i64 x', .int .i64 y']⟩, ⟨g4, 42, [.string nm, .slice B l cc, .slice none 0 0, .int .i64 p, .int .i64 q]⟩, ⟨g3, 42, [.string ⟨#[]⟩, .slice none 0 0, .slice none 0 0, .int .i64 0, .int .i64 0]⟩, ⟨g2, 48, [.slice none 0 0, .int .i64 0, .int .i64 0, .bool false, .int .i64 0, .int .i64 0]⟩] [⟨.slice B l cc, 9, 1, l⟩] (fun w U => (Cont (.slice B l cc) xs w U ∧ Flat kS xs ts w U) ∧ Toks A n w U) a w U ∧
    i ≤ i' ∧ i' ≤ n ∧ ts.length = l ∧ l ≤ cc ∧ xs.length = l * 1 ∧ l + mu n i' b' ≤ 2 * n + 2 ∧ (b' = true ∨ (b = false ∧ i < i')) ∧ mz = mu n i' b'
/-- What holds at the head of the loop over its constructors. -/
def InvCons (w0 : World) (U0 : Mk) (A : Option Addr) (n c : Nat) (i d : Int) (b : Bool) (nm : ByteArray) (p q : Int) (Bv : Option Addr) (lv cv : Nat) (tv : List (List UInt8)) (g2 g3 g4 g5 : Nat) (mz : Nat) (a : Act) (w : World) : Prop :=
  ∃ (U : Mk) (i' x' y' : Int) (b' : Bool) (B : Option Addr) (l cc : Nat) (xs : List Value) (ts : List CoT),
    Sta w0 U0 65 [(2, .pointer (some ⟨g2, 0, none⟩)), (3, .pointer (some ⟨g3, 0, none⟩)), (4, .pointer (some ⟨g4, 0, none⟩)), (5, .pointer (some ⟨g5, 0, none⟩))] [⟨g5, 48, [.slice A n c, .int .i64 i', .int .i64 d, .bool b', .int .i64 x', .int .i64 y']⟩, ⟨g4, 42, [.string nm, .slice Bv lv cv, .slice B l cc, .int .i64 p, .int .i64 q]⟩, ⟨g3, 42, [.string ⟨#[]⟩, .slice none 0 0, .slice none 0 0, .int .i64 0, .int .i64 0]⟩, ⟨g2, 48, [.slice none 0 0, .int .i64 0, .int .i64 0, .bool false, .int .i64 0, .int .i64 0]⟩] [⟨.slice B l cc, 65, 4, l⟩] (fun w U => ((Cont (.slice B l cc) xs w U ∧ Flat kC xs ts w U) ∧ Sl kS (.slice Bv lv cv) tv w U) ∧ Toks A n w U) a w U ∧
    i ≤ i' ∧ i' ≤ n ∧ ts.length = l ∧ l ≤ cc ∧ xs.length = l * 4 ∧ l + mu n i' b' ≤ 2 * n + 2 ∧ (b' = true ∨ (b = false ∧ i < i')) ∧ tv.length ≤ 100000000 ∧ mz = mu n i' b'

theorem data_c {A : Option Addr} {n c : Nat} (hn : n ≤ 1000000) {w : World} {U : Mk} (i d x y : Int) (b : Bool) (h0 : 0 ≤ i) (hin : i ≤ n) (hd0 : 0 ≤ d) (hd : d ≤ 40) (hT : Toks A n w U) :
    CallsS Tryz.prog 15 [.agg #[.slice A n c, .int .i64 i, .int .i64 d, .bool b, .int .i64 x, .int .i64 y]] w U (fun v w' U' => ∃ (i2 : Int) (b2 : Bool) (x2 y2 p q : Int) (s : ByteArray) (B B' : Option Addr) (l c2 l' c' : Nat) (t : DaT), v = .tuple #[.agg #[.slice A n c, .int .i64 i2, .int .i64 d, .bool b2, .int .i64 x2, .int .i64 y2], .agg #[.string s, .slice B l c2, .slice B' l' c', .int .i64 p, .int .i64 q]] ∧ i ≤ i2 ∧ i2 ≤ n ∧ (b2 = true ∨ (b = false ∧ i < i2)) ∧ kD.R [.string s, .slice B l c2, .slice B' l' c', .int .i64 p, .int .i64 q] t w' U') := by
  refine x_enter (F := Toks A n) (n := 65) Tryz.func15 rfl rfl (by simp) (.cons (d := 0) rfl (.nil)) (Toks.mono A n) (hT) ?_
  intro a hst
  refine wp_seq ?_
  refine wp_region_lit ?_
  refine l_op rfl (r_box hst rfl rfl rfl ?_)
  clear hst; intro a w g1 hst
  refine l_op rfl (r_alloc hst Tz48 rfl ?_)
  clear hst; intro a w g2 hst
  refine l_op rfl (r_alloc hst Tz42 rfl ?_)
  clear hst; intro a w g3 hst
  refine wpList_nil ?_
  refine then_n ?_
  refine wp_seq ?_
  refine wp_region_lit ?_
  refine l_op rfl (r_loada hst rfl Ta48 (.tail _ (.tail _ (.head _))) (.cons rfl (.cons rfl (.cons rfl (.cons rfl (.cons rfl (.cons rfl (.nil))))))) rfl rfl ?_)
  clear hst; intro a hst
  refine l_op rfl (r_call (xs := [(Operand.tmp 9)]) hst rfl Ten12 (now_c _ _ _ _ _ (by omega) hn (by first | exact hst.fact | exact hst.fact.2 | exact hst.fact.2.2 | exact hst.fact.2.2.2 | exact hst.fact.2.2.2.2)) rfl ?_)
  clear hst; rintro a _ w U ⟨k1, m1, p1, q1, s1, rfl, hk1⟩ hst
  refine l_op rfl (r_fielda hst rfl Tfa50_3 (.cons rfl (.cons rfl (.nil))) rfl rfl ?_)
  clear hst; intro a hst
  refine l_op rfl (r_build (ps := [(3, (Operand.tmp 11))]) hst Tso42 Tz42 (.cons Tf42_3 rfl rfl (.there (.there (.there (.here (.here (.nil (Nat.zero_le _))))))) (.nil)) rfl ?_)
  clear hst; intro a hst
  refine l_op rfl (r_alloc hst Tz42 rfl ?_)
  clear hst; intro a w g4 hst
  refine l_op rfl (r_store hst rfl rfl rfl Tsz42 rfl (.head (.here (.here (.here (.here (.here (.nil (Nat.zero_le _)))))))) ?_)
  clear hst; intro w hst
  refine wpList_nil ?_
  refine then_n ?_
  refine wp_seq ?_
  refine wp_region_lit ?_
  refine l_op rfl (r_loada hst rfl Ta48 (.tail _ (.tail _ (.tail _ (.head _)))) (.cons rfl (.cons rfl (.cons rfl (.cons rfl (.cons rfl (.cons rfl (.nil))))))) rfl rfl ?_)
  clear hst; intro a hst
  refine l_op rfl (r_call (xs := [(Operand.tmp 14), (Operand.const (Value.int IntKind.i64 5)), (Operand.const (Value.string { data := #[100, 97, 116, 97] }))]) hst rfl Ten13 (take_c _ _ _ _ _ _ _ (by omega) hn (by first | exact hst.fact | exact hst.fact.2 | exact hst.fact.2.2 | exact hst.fact.2.2.2 | exact hst.fact.2.2.2.2) (by omega) (by decide)) rfl ?_)
  clear hst; rintro a _ w U ⟨i1, b1, x1, y1, rfl, ht1⟩ hst
  refine l_op rfl (r_call (xs := [(Operand.tmp 15), (Operand.const (Value.int IntKind.i64 3))]) hst rfl Ten40 (name_c _ _ _ _ _ _ (by omega) hn (by first | exact hst.fact | exact hst.fact.2 | exact hst.fact.2.2 | exact hst.fact.2.2.2 | exact hst.fact.2.2.2.2) (by omega) (by decide)) rfl ?_)
  clear hst; rintro a _ w U ⟨i2, b2, x2, y2, s2, rfl, hn2⟩ hst
  refine l_op rfl (r_move hst rfl rfl ?_)
  clear hst; intro a hst
  refine l_op rfl (r_extract hst rfl rfl rfl ?_)
  clear hst; intro a hst
  refine l_op rfl (r_extract hst rfl rfl rfl ?_)
  clear hst; intro a hst
  refine l_op rfl (r_alloc hst Tz48 rfl ?_)
  clear hst; intro a w g5 hst
  refine l_op rfl (r_store hst rfl rfl rfl Tsz48 rfl (.head (.here (.here (.here (.here (.here (.here (.nil (Nat.zero_le _))))))))) ?_)
  clear hst; intro w hst
  refine l_op rfl (r_assign hst rfl rfl ?_)
  clear hst; intro a hst
  refine wpList_nil ?_
  refine then_n ?_
  refine wp_seq ?_
  refine wp_region_lit ?_
  refine l_op rfl (r_move hst rfl rfl ?_)
  clear hst; intro a hst
  refine l_op rfl (r_fieldAddr hst rfl Tf42_0 rfl ?_)
  clear hst; intro a hst
  refine l_op rfl (r_store hst rfl rfl rfl Tsz9 rfl (.tail (.head (.here (.nil (Nat.zero_le _))))) ?_)
  clear hst; intro w hst
  refine wpList_nil ?_
  refine then_n ?_
  refine wp_seq ?_
  refine wp_block ?_
  have hst := (((hst.keep (ds := [2, 3, 4, 5]) (.cons rfl (.cons rfl (.cons rfl (.cons rfl (.nil)))))).drop (.cons_cons _ (.cons_cons _ (.cons_cons _ (.cons_cons _ (.cons _ (.slnil)))))))).row_nil 9 (sz := 1) (by decide)
  have hst := hst.newFact (G := fun w U => (Cont (.slice none 0 0) [] w U ∧ Flat kS [] [] w U) ∧ Toks A n w U) (Mono.and (Mono.and (Cont.mono _ _) (Flat.mono kS _ _)) (Toks.mono A n)) ⟨⟨Cont.nil _ _ _, Flat.nil _ _ _⟩, hst.fact⟩
  refine wp_loop_ghost (InvVars _ _ A n c i d b s2 p1 q1 g2 g3 g4 g5) (mu n i2 b2) ⟨_, _, _, _, _, _, _, _, _, _, hst, by omega, by omega, rfl, by omega, rfl, by have := mu_bd n i2 b2 (by omega); omega, by grind, rfl⟩ ?_
  clear hst
  rintro mz a w ⟨U, i', x', y', b', B, l, cc, xs, ts, hst, hi1, hi2, hl, hcc, hxl, hlm, hbb, rfl⟩
  refine wp_seq ?_
  refine wp_seq ?_
  refine wp_region_lit ?_
  refine l_op rfl (r_fieldAddr hst rfl Tf48_3 rfl ?_)
  clear hst; intro a hst
  refine l_op rfl (r_loads hst rfl Ts4 (.head _) rfl rfl ?_)
  clear hst; intro a hst
  refine l_op rfl (r_not hst rfl rfl ?_)
  clear hst; intro a hst
  refine l_op rfl (r_move hst rfl rfl ?_)
  clear hst; intro a hst
  refine hst.split (t := 24) rfl (fun hc1 hst => ?_) (fun hc1 hst => ?_)
  · try simp at hc1
    try (have hz := hb1; simp [hc1] at hz)
    refine l_on hst rfl rfl rfl (r_loada hst rfl Ta48 (.head _) (.cons rfl (.cons rfl (.cons rfl (.cons rfl (.cons rfl (.cons rfl (.nil))))))) rfl rfl ?_)
    clear hst; intro a hst
    refine l_on hst rfl rfl rfl (r_call (xs := [(Operand.tmp 25)]) hst rfl Ten12 (now_c _ _ _ _ _ (by omega) hn (by first | exact hst.fact | exact hst.fact.2 | exact hst.fact.2.2 | exact hst.fact.2.2.2 | exact hst.fact.2.2.2.2)) rfl ?_)
    clear hst; rintro a _ w U ⟨k1, m1, p1, q1, s1, rfl, hk1⟩ hst
    refine l_on hst rfl rfl rfl (r_fields hst rfl Tfs50_0 rfl rfl ?_)
    clear hst; intro a hst
    refine l_on hst rfl rfl rfl (r_bin hst rfl rfl rfl rfl rfl ?_)
    clear hst; intro a hst
    refine l_op rfl (r_pick hst rfl rfl rfl ?_)
    clear hst; intro a hst
    refine wpList_nil ?_
    refine then_n ?_
    refine x_cond hst rfl (fun hc2 => ?_) (fun hc2 => ?_)
    · try simp at hc2
      try (have hz := hb1; simp [hc2] at hz)
      refine wp_skip ?_
      refine then_n ?_
      refine wp_block ?_
      refine wp_seq ?_
      refine x_drawh (by kernel_rfl) hst (.cons_cons _ (.cons _ (.cons _ (.cons _ (.slnil))))) ?_
      clear hst; intro w hst
      refine h_take (i := 0) hst (.cons_cons _ (.cons _ (.cons _ (.cons _ (.slnil))))) rfl rfl rfl rfl (by kernel_rfl) (by kernel_rfl) (by kernel_rfl) (fun _ _ _ h => h) (fun _ _ _ _ hst => q_fieldAddr hst rfl Tf42_1) ?_
      clear hst; intro a hst
      refine h_take (i := 2) hst (.cons_cons _ (.cons _ (.cons _ (.cons _ (.slnil))))) rfl rfl rfl rfl (by kernel_rfl) (by kernel_rfl) (by kernel_rfl) (fun _ _ _ h => h) (fun _ _ _ _ hst => q_loada hst rfl Ta48 (.head _) (.cons rfl (.cons rfl (.cons rfl (.cons rfl (.cons rfl (.cons rfl (.nil))))))) rfl) ?_
      clear hst; intro a hst
      refine h_two (i := 1) (j := 3) (by kernel_rfl) rfl rfl rfl rfl (r_loads hst rfl Ts39 (.tail _ (.head _)) rfl rfl ?_) (r_call (xs := [(Operand.tmp 32)]) hst rfl Ten12 (now_c _ _ _ _ _ (by omega) hn (by first | exact hst.fact | exact hst.fact.2 | exact hst.fact.2.2 | exact hst.fact.2.2.2 | exact hst.fact.2.2.2.2)) rfl ?_)
      · clear hst; intro a hst
        refine ⟨hst.held (.cons_cons _ (.cons _ (.cons _ (.cons _ (.slnil))))), ?_⟩
        refine h_one (i := 3) (by kernel_rfl) rfl rfl (r_call (xs := [(Operand.tmp 32)]) hst rfl Ten12 (now_c _ _ _ _ _ (by omega) hn (by first | exact hst.fact | exact hst.fact.2 | exact hst.fact.2.2 | exact hst.fact.2.2.2 | exact hst.fact.2.2.2.2)) rfl ?_)
        clear hst; rintro a _ w U ⟨k1, m1, p1, q1, s1, rfl, hk1⟩ hst
        refine ⟨hst.held (.cons_cons _ (.cons _ (.cons _ (.cons _ (.slnil))))), ?_⟩
        refine h_take (i := 4) hst (.cons_cons _ (.cons _ (.cons _ (.cons _ (.slnil))))) rfl rfl rfl rfl (by kernel_rfl) (by kernel_rfl) (by kernel_rfl) (fun _ _ _ h => h) (fun _ _ _ _ hst => q_fields hst rfl Tfs50_1 rfl) ?_
        clear hst; intro a hst
        refine h_one (i := 5) (by kernel_rfl) rfl rfl (r_slice1 hst Tu39 Tsz9 Tz9 rfl (by decide) (by decide) rfl rfl rfl rfl ?_)
        clear hst; intro a w g6 hst
        refine ⟨hst.held (.cons _ (.cons_cons _ (.cons _ (.cons _ (.cons _ (.slnil)))))), ?_⟩
        refine h_one (i := 6) (by kernel_rfl) rfl rfl (r_append hst rfl rfl Tet39 (.head _) rfl (by decide) rfl hst.fact.1.1 hxl (by omega) (by omega) rfl ?_)
        clear hst; intro a v w U hext hcont hv hst
        obtain ⟨B3, c3, rfl, hcc2⟩ := hv
        have hfl : Flat kS (xs ++ [.string s1]) (ts ++ [s1.toList]) w U := Flat.snoc (K := kS) hst.fact.1.2 ⟨s1, rfl, rfl⟩
        have hst := hst.addFact (Mono.and (Cont.mono _ _) (Flat.mono kS _ _)) ⟨hcont, hfl⟩
        refine ⟨hst.held (.cons _ (.cons_cons _ (.cons _ (.cons _ (.cons _ (.slnil)))))), ?_⟩
        refine h_take (i := 7) hst (.cons _ (.cons_cons _ (.cons _ (.cons _ (.cons _ (.slnil)))))) rfl rfl rfl rfl (by kernel_rfl) (by kernel_rfl) (by kernel_rfl) (fun _ _ _ h => h) (fun _ _ _ _ hst => q_fieldAddr hst rfl Tf42_1) ?_
        clear hst; intro a hst
        refine h_one (i := 8) (by kernel_rfl) rfl rfl (r_store hst rfl rfl rfl Tsz39 rfl (.tail (.tail (.head (.there (.here (.nil (Nat.zero_le _))))))) ?_)
        clear hst; intro w hst
        refine ⟨hst.held (.cons _ (.cons_cons _ (.cons _ (.cons _ (.cons _ (.slnil)))))), ?_⟩
        refine h_done (by kernel_rfl) ?_
        refine then_n ?_
        refine wp_region_lit ?_
        refine l_op rfl (r_fieldAddr hst rfl Tf48_1 rfl ?_)
        clear hst; intro a hst
        refine l_op rfl (r_loads hst rfl Ts3 (.tail _ (.head _)) rfl rfl ?_)
        clear hst; intro a hst
        refine l_op rfl (r_bin hst rfl rfl rfl rfl rfl ?_)
        clear hst; intro a hst
        rw [wrap_in _ (by omega) (by omega)] at hst
        refine l_op rfl (r_fieldAddr hst rfl Tf48_1 rfl ?_)
        clear hst; intro a hst
        refine l_op rfl (r_store hst rfl rfl rfl Tsz3 rfl (.tail (.head (.there (.here (.nil (Nat.zero_le _)))))) ?_)
        clear hst; intro w hst
        refine wpList_nil ?_
        refine inb_n ?_
        have hst := ((hst.keep (ds := [2, 3, 4, 5]) (.cons rfl (.cons rfl (.cons rfl (.cons rfl (.nil)))))).drop (.cons _ (.cons_cons _ (.cons_cons _ (.cons_cons _ (.cons_cons _ (.slnil)))))))
        have hst := hst.newFact (Mono.and (Mono.and (Cont.mono _ _) (Flat.mono kS _ _)) (Toks.mono A n)) ⟨⟨hst.fact.1.1, hst.fact.1.2⟩, hst.fact.2.2⟩
        have hmm : mu n (i' + 1) b' < mu n i' b' := mu_lt1 (by omega) (by omega)
        exact then_k ⟨_, hmm, _, _, _, _, _, _, _, _, _, _, hst, by omega, by omega, by simp [hl], hcc2, by simp [hxl], by omega, by grind, rfl⟩
      clear hst; rintro a _ w U ⟨k1, m1, p1, q1, s1, rfl, hk1⟩ hst
      refine ⟨hst.held (.cons_cons _ (.cons _ (.cons _ (.cons _ (.slnil))))), ?_⟩
      refine h_take (i := 4) hst (.cons_cons _ (.cons _ (.cons _ (.cons _ (.slnil))))) rfl rfl rfl rfl (by kernel_rfl) (by kernel_rfl) (by kernel_rfl) (fun _ _ _ h => h) (fun _ _ _ _ hst => q_fields hst rfl Tfs50_1 rfl) ?_
      clear hst; intro a hst
      refine h_two (i := 1) (j := 5) (by kernel_rfl) rfl rfl rfl rfl (r_loads hst rfl Ts39 (.tail _ (.head _)) rfl rfl ?_) (r_slice1 hst Tu39 Tsz9 Tz9 rfl (by decide) (by decide) rfl rfl rfl rfl ?_)
      · clear hst; intro a hst
        refine ⟨hst.held (.cons_cons _ (.cons _ (.cons _ (.cons _ (.slnil))))), ?_⟩
        refine h_one (i := 5) (by kernel_rfl) rfl rfl (r_slice1 hst Tu39 Tsz9 Tz9 rfl (by decide) (by decide) rfl rfl rfl rfl ?_)
        clear hst; intro a w g6 hst
        refine ⟨hst.held (.cons _ (.cons_cons _ (.cons _ (.cons _ (.cons _ (.slnil)))))), ?_⟩
        refine h_one (i := 6) (by kernel_rfl) rfl rfl (r_append hst rfl rfl Tet39 (.head _) rfl (by decide) rfl hst.fact.1.1 hxl (by omega) (by omega) rfl ?_)
        clear hst; intro a v w U hext hcont hv hst
        obtain ⟨B3, c3, rfl, hcc2⟩ := hv
        have hfl : Flat kS (xs ++ [.string s1]) (ts ++ [s1.toList]) w U := Flat.snoc (K := kS) hst.fact.1.2 ⟨s1, rfl, rfl⟩
        have hst := hst.addFact (Mono.and (Cont.mono _ _) (Flat.mono kS _ _)) ⟨hcont, hfl⟩
        refine ⟨hst.held (.cons _ (.cons_cons _ (.cons _ (.cons _ (.cons _ (.slnil)))))), ?_⟩
        refine h_take (i := 7) hst (.cons _ (.cons_cons _ (.cons _ (.cons _ (.cons _ (.slnil)))))) rfl rfl rfl rfl (by kernel_rfl) (by kernel_rfl) (by kernel_rfl) (fun _ _ _ h => h) (fun _ _ _ _ hst => q_fieldAddr hst rfl Tf42_1) ?_
        clear hst; intro a hst
        refine h_one (i := 8) (by kernel_rfl) rfl rfl (r_store hst rfl rfl rfl Tsz39 rfl (.tail (.tail (.head (.there (.here (.nil (Nat.zero_le _))))))) ?_)
        clear hst; intro w hst
        refine ⟨hst.held (.cons _ (.cons_cons _ (.cons _ (.cons _ (.cons _ (.slnil)))))), ?_⟩
        refine h_done (by kernel_rfl) ?_
        refine then_n ?_
        refine wp_region_lit ?_
        refine l_op rfl (r_fieldAddr hst rfl Tf48_1 rfl ?_)
        clear hst; intro a hst
        refine l_op rfl (r_loads hst rfl Ts3 (.tail _ (.head _)) rfl rfl ?_)
        clear hst; intro a hst
        refine l_op rfl (r_bin hst rfl rfl rfl rfl rfl ?_)
        clear hst; intro a hst
        rw [wrap_in _ (by omega) (by omega)] at hst
        refine l_op rfl (r_fieldAddr hst rfl Tf48_1 rfl ?_)
        clear hst; intro a hst
        refine l_op rfl (r_store hst rfl rfl rfl Tsz3 rfl (.tail (.head (.there (.here (.nil (Nat.zero_le _)))))) ?_)
        clear hst; intro w hst
        refine wpList_nil ?_
        refine inb_n ?_
        have hst := ((hst.keep (ds := [2, 3, 4, 5]) (.cons rfl (.cons rfl (.cons rfl (.cons rfl (.nil)))))).drop (.cons _ (.cons_cons _ (.cons_cons _ (.cons_cons _ (.cons_cons _ (.slnil)))))))
        have hst := hst.newFact (Mono.and (Mono.and (Cont.mono _ _) (Flat.mono kS _ _)) (Toks.mono A n)) ⟨⟨hst.fact.1.1, hst.fact.1.2⟩, hst.fact.2.2⟩
        have hmm : mu n (i' + 1) b' < mu n i' b' := mu_lt1 (by omega) (by omega)
        exact then_k ⟨_, hmm, _, _, _, _, _, _, _, _, _, _, hst, by omega, by omega, by simp [hl], hcc2, by simp [hxl], by omega, by grind, rfl⟩
      clear hst; intro a w g6 hst
      refine ⟨hst.held (.cons _ (.cons_cons _ (.cons _ (.cons _ (.cons _ (.slnil)))))), ?_⟩
      refine h_one (i := 1) (by kernel_rfl) rfl rfl (r_loads hst rfl Ts39 (.tail _ (.tail _ (.head _))) rfl rfl ?_)
      clear hst; intro a hst
      refine ⟨hst.held (.cons _ (.cons_cons _ (.cons _ (.cons _ (.cons _ (.slnil)))))), ?_⟩
      refine h_one (i := 6) (by kernel_rfl) rfl rfl (r_append hst rfl rfl Tet39 (.head _) rfl (by decide) rfl hst.fact.1.1 hxl (by omega) (by omega) rfl ?_)
      clear hst; intro a v w U hext hcont hv hst
      obtain ⟨B3, c3, rfl, hcc2⟩ := hv
      have hfl : Flat kS (xs ++ [.string s1]) (ts ++ [s1.toList]) w U := Flat.snoc (K := kS) hst.fact.1.2 ⟨s1, rfl, rfl⟩
      have hst := hst.addFact (Mono.and (Cont.mono _ _) (Flat.mono kS _ _)) ⟨hcont, hfl⟩
      refine ⟨hst.held (.cons _ (.cons_cons _ (.cons _ (.cons _ (.cons _ (.slnil)))))), ?_⟩
      refine h_take (i := 7) hst (.cons _ (.cons_cons _ (.cons _ (.cons _ (.cons _ (.slnil)))))) rfl rfl rfl rfl (by kernel_rfl) (by kernel_rfl) (by kernel_rfl) (fun _ _ _ h => h) (fun _ _ _ _ hst => q_fieldAddr hst rfl Tf42_1) ?_
      clear hst; intro a hst
      refine h_one (i := 8) (by kernel_rfl) rfl rfl (r_store hst rfl rfl rfl Tsz39 rfl (.tail (.tail (.head (.there (.here (.nil (Nat.zero_le _))))))) ?_)
      clear hst; intro w hst
      refine ⟨hst.held (.cons _ (.cons_cons _ (.cons _ (.cons _ (.cons _ (.slnil)))))), ?_⟩
      refine h_done (by kernel_rfl) ?_
      refine then_n ?_
      refine wp_region_lit ?_
      refine l_op rfl (r_fieldAddr hst rfl Tf48_1 rfl ?_)
      clear hst; intro a hst
      refine l_op rfl (r_loads hst rfl Ts3 (.tail _ (.head _)) rfl rfl ?_)
      clear hst; intro a hst
      refine l_op rfl (r_bin hst rfl rfl rfl rfl rfl ?_)
      clear hst; intro a hst
      rw [wrap_in _ (by omega) (by omega)] at hst
      refine l_op rfl (r_fieldAddr hst rfl Tf48_1 rfl ?_)
      clear hst; intro a hst
      refine l_op rfl (r_store hst rfl rfl rfl Tsz3 rfl (.tail (.head (.there (.here (.nil (Nat.zero_le _)))))) ?_)
      clear hst; intro w hst
      refine wpList_nil ?_
      refine inb_n ?_
      have hst := ((hst.keep (ds := [2, 3, 4, 5]) (.cons rfl (.cons rfl (.cons rfl (.cons rfl (.nil)))))).drop (.cons _ (.cons_cons _ (.cons_cons _ (.cons_cons _ (.cons_cons _ (.slnil)))))))
      have hst := hst.newFact (Mono.and (Mono.and (Cont.mono _ _) (Flat.mono kS _ _)) (Toks.mono A n)) ⟨⟨hst.fact.1.1, hst.fact.1.2⟩, hst.fact.2.2⟩
      have hmm : mu n (i' + 1) b' < mu n i' b' := mu_lt1 (by omega) (by omega)
      exact then_k ⟨_, hmm, _, _, _, _, _, _, _, _, _, _, hst, by omega, by omega, by simp [hl], hcc2, by simp [hxl], by omega, by grind, rfl⟩
    try simp at hc2
    try (have hz := hb1; simp [hc2] at hz)
    refine wp_exit ?_
    refine then_x ?_
    refine then_x ?_
    refine inb_hit ?_
    refine then_n ?_
    refine wp_seq ?_
    refine wp_region_lit ?_
    refine l_op rfl (r_loada hst rfl Ta48 (.head _) (.cons rfl (.cons rfl (.cons rfl (.cons rfl (.cons rfl (.cons rfl (.nil))))))) rfl rfl ?_)
    clear hst; intro a hst
    refine l_op rfl (r_call (xs := [(Operand.tmp 42), (Operand.const (Value.int IntKind.i64 6)), (Operand.const (Value.string { data := #[61] }))]) hst rfl Ten13 (take_c _ _ _ _ _ _ _ (by omega) hn (by first | exact hst.fact | exact hst.fact.2 | exact hst.fact.2.2 | exact hst.fact.2.2.2 | exact hst.fact.2.2.2.2) (by omega) (by decide)) rfl ?_)
    clear hst; rintro a _ w U ⟨i1, b1, x1, y1, rfl, ht1⟩ hst
    refine l_op rfl (r_store hst rfl rfl rfl Tsz48 rfl (.head (.here (.here (.here (.here (.here (.here (.nil (Nat.zero_le _))))))))) ?_)
    clear hst; intro w hst
    refine wpList_nil ?_
    refine then_n ?_
    refine wp_block ?_
    have hst := ((((hst.keep (ds := [2, 3, 4, 5]) (.cons rfl (.cons rfl (.cons rfl (.cons rfl (.nil)))))).drop (.cons_cons _ (.cons_cons _ (.cons_cons _ (.cons_cons _ (.slnil))))))).row_drop (RW' := []) (List.nil_sublist _)).row_nil 65 (sz := 4) (by decide)
    have hst := hst.newFact (G := fun w U => ((Cont (.slice none 0 0) [] w U ∧ Flat kC [] [] w U) ∧ Sl kS (.slice B l cc) ts w U) ∧ Toks A n w U) (Mono.and (Mono.and (Mono.and (Cont.mono _ _) (Flat.mono kC _ _)) (Sl.mono kS _ _)) (Toks.mono A n)) ⟨⟨⟨Cont.nil _ _ _, Flat.nil _ _ _⟩, Sl.of_flat hst.fact.1.1 hst.fact.1.2 hl hcc⟩, hst.fact.2⟩
    refine wp_loop_ghost (InvCons _ _ A n c i d b _ _ _ B l cc ts g2 g3 g4 g5) (mu n i1 b1) ⟨_, _, _, _, _, _, _, _, _, _, hst, by omega, by omega, rfl, by omega, rfl, by have := mu_bd n i1 b1 (by omega); omega, by grind, by omega, rfl⟩ ?_
    clear hst
    clear hxl hlm hbb hi1 hi2 hcc hl
    rintro mz a w ⟨U, i', x', y', b', B2, l2, cc2, xs2, ts2, hst, hi1, hi2, hl, hcc, hxl, hlm, hbb, htv, rfl⟩
    refine wp_block ?_
    refine wp_seq ?_
    refine wp_region_lit ?_
    refine l_op rfl (r_loada hst rfl Ta48 (.head _) (.cons rfl (.cons rfl (.cons rfl (.cons rfl (.cons rfl (.cons rfl (.nil))))))) rfl rfl ?_)
    clear hst; intro a hst
    refine l_op rfl (r_call (xs := [(Operand.tmp 45)]) hst rfl Ten41 (con_c hn _ _ _ _ _ (by omega) (by omega) (by omega) (by omega) (by first | exact hst.fact | exact hst.fact.2 | exact hst.fact.2.2 | exact hst.fact.2.2.2 | exact hst.fact.2.2.2.2)) rfl ?_)
    clear hst; rintro a _ w U ⟨i12, b12, x12, y12, p12, q12, s12, B12, l12, c12, t12, rfl, h12a, h12b, h12c, h12⟩ hst
    have hst := hst.addFact (kC.mono _ _) h12
    refine l_op rfl (r_move hst rfl rfl ?_)
    clear hst; intro a hst
    refine l_op rfl (r_extract hst rfl rfl rfl ?_)
    clear hst; intro a hst
    refine l_op rfl (r_extract hst rfl rfl rfl ?_)
    clear hst; intro a hst
    refine l_op rfl (r_alloc hst Tz48 rfl ?_)
    clear hst; intro a w g6 hst
    refine l_op rfl (r_alloc hst Tz65 rfl ?_)
    clear hst; intro a w g7 hst
    refine l_op rfl (r_store hst rfl rfl rfl Tsz48 rfl (.tail (.head (.here (.here (.here (.here (.here (.here (.nil (Nat.zero_le _)))))))))) ?_)
    clear hst; intro w hst
    refine l_op rfl (r_store hst rfl rfl rfl Tsz65 rfl (.head (.here (.here (.here (.here (.nil (Nat.zero_le _))))))) ?_)
    clear hst; intro w hst
    refine wpList_nil ?_
    refine then_n ?_
    refine wp_seq ?_
    refine wp_region_lit ?_
    refine l_op rfl (r_loada hst rfl Ta48 (.tail _ (.head _)) (.cons rfl (.cons rfl (.cons rfl (.cons rfl (.cons rfl (.cons rfl (.nil))))))) rfl rfl ?_)
    clear hst; intro a hst
    refine l_op rfl (r_store hst rfl rfl rfl Tsz48 rfl (.tail (.tail (.head (.here (.here (.here (.here (.here (.here (.nil (Nat.zero_le _))))))))))) ?_)
    clear hst; intro w hst
    refine wpList_nil ?_
    refine then_n ?_
    refine wp_seq ?_
    refine wp_region_lit ?_
    refine l_op rfl (r_fieldAddr hst rfl Tf42_2 rfl ?_)
    clear hst; intro a hst
    refine l_op rfl (r_loads hst rfl Ts40 (.tail _ (.tail _ (.tail _ (.head _)))) rfl rfl ?_)
    clear hst; intro a hst
    refine l_op rfl (r_loada hst rfl Ta65 (.head _) (.cons rfl (.cons rfl (.cons rfl (.cons rfl (.nil))))) rfl rfl ?_)
    clear hst; intro a hst
    refine l_op rfl (r_slice1 hst Tu40 Tsz65 Tz65 rfl (by decide) (by decide) rfl rfl rfl rfl ?_)
    clear hst; intro a w g8 hst
    refine l_op rfl (r_append hst rfl rfl Tet40 (.head _) rfl (by decide) rfl hst.fact.2.1.1.1 hxl (by omega) (by omega) rfl ?_)
    clear hst; intro a v w U hext hcont hv hst
    obtain ⟨B4, c4, rfl, hcc4⟩ := hv
    have hfl := Flat.snoc (K := kC) hst.fact.2.1.1.2 hst.fact.1
    have hst := hst.addFact (Mono.and (Cont.mono _ _) (Flat.mono kC _ _)) ⟨hcont, hfl⟩
    refine l_op rfl (r_fieldAddr hst rfl Tf42_2 rfl ?_)
    clear hst; intro a hst
    refine l_op rfl (r_store hst rfl rfl rfl Tsz40 rfl (.tail (.tail (.tail (.tail (.head (.there (.there (.here (.nil (Nat.zero_le _)))))))))) ?_)
    clear hst; intro w hst
    refine wpList_nil ?_
    refine then_n ?_
    refine wp_seq ?_
    refine wp_seq ?_
    refine wp_region_lit ?_
    refine l_op rfl (r_loada hst rfl Ta48 (.tail _ (.tail _ (.tail _ (.head _)))) (.cons rfl (.cons rfl (.cons rfl (.cons rfl (.cons rfl (.cons rfl (.nil))))))) rfl rfl ?_)
    clear hst; intro a hst
    refine l_op rfl (r_call (xs := [(Operand.tmp 56), (Operand.const (Value.int IntKind.i64 6)), (Operand.const (Value.string { data := #[124] }))]) hst rfl Ten14 (is_c _ _ _ _ _ _ _ (by omega) hn (by first | exact hst.fact | exact hst.fact.2 | exact hst.fact.2.2 | exact hst.fact.2.2.2 | exact hst.fact.2.2.2.2) (by decide)) rfl ?_)
    clear hst; rintro a _ w U ⟨b1, rfl, hb1⟩ hst
    refine l_op rfl (r_not hst rfl rfl ?_)
    clear hst; intro a hst
    refine wpList_nil ?_
    refine then_n ?_
    refine x_cond hst rfl (fun hc3 => ?_) (fun hc3 => ?_)
    · try simp at hc3
      try (have hz := hb1; simp [hc3] at hz)
      refine wp_seq ?_
      refine x_drawh (by kernel_rfl) hst (.cons _ (.cons _ (.cons _ (.cons_cons _ (.cons_cons _ (.cons _ (.cons _ (.slnil)))))))) ?_
      clear hst; intro w hst
      refine h_take (i := 0) hst (.cons _ (.cons _ (.cons _ (.cons_cons _ (.cons_cons _ (.cons _ (.cons _ (.slnil)))))))) rfl rfl rfl rfl (by kernel_rfl) (by kernel_rfl) (by kernel_rfl) (fun _ _ _ h => h) (fun _ _ _ _ hst => q_loada hst rfl Ta48 (.head _) (.cons rfl (.cons rfl (.cons rfl (.cons rfl (.cons rfl (.cons rfl (.nil))))))) rfl) ?_
      clear hst; intro a hst
      refine h_take (i := 1) hst (.cons _ (.cons _ (.cons _ (.cons_cons _ (.cons_cons _ (.cons _ (.cons _ (.slnil)))))))) rfl rfl rfl rfl (by kernel_rfl) (by kernel_rfl) (by kernel_rfl) (fun _ _ _ h => h) (fun _ _ _ _ hst => q_loada hst rfl Ta42 (.tail _ (.head _)) (.cons rfl (.cons rfl (.cons rfl (.cons rfl (.cons rfl (.nil)))))) rfl) ?_
      clear hst; intro a hst
      refine h_one (i := 2) (by kernel_rfl) rfl rfl (r_store hst rfl rfl rfl Tsz48 rfl (.tail (.tail (.tail (.tail (.tail (.tail (.head (.here (.here (.here (.here (.here (.here (.nil (Nat.zero_le _))))))))))))))) ?_)
      clear hst; intro w hst
      refine ⟨hst.held (.cons _ (.cons _ (.cons _ (.cons_cons _ (.cons_cons _ (.cons _ (.cons _ (.slnil)))))))), ?_⟩
      refine h_one (i := 3) (by kernel_rfl) rfl rfl (r_store hst rfl rfl rfl Tsz42 rfl (.tail (.tail (.tail (.tail (.tail (.head (.here (.here (.here (.here (.here (.nil (Nat.zero_le _))))))))))))) ?_)
      clear hst; intro w hst
      refine ⟨hst.held (.cons _ (.cons _ (.cons _ (.cons_cons _ (.cons_cons _ (.cons _ (.cons _ (.slnil)))))))), ?_⟩
      refine h_done (by kernel_rfl) ?_
      refine then_n ?_
      refine wp_ret ?_
      refine then_r ?_
      refine inb_r ?_
      refine then_r ?_
      refine inb_r ?_
      refine x_ret (rs := [.cell 2 48, .cell 3 42]) hst rfl (.agg rfl Ta48 (.tail _ (.tail _ (.tail _ (.tail _ (.tail _ (.tail _ (.head _))))))) rfl (.agg rfl Ta42 (.tail _ (.tail _ (.tail _ (.tail _ (.tail _ (.head _)))))) rfl (.nil))) ?_
      exact ⟨_, _, _, _, _, _, _, _, _, _, _, _, _, ⟨_, _, _⟩, rfl, by grind, by grind, by grind, ⟨_, _, _, _, _, rfl, rfl, hst.fact.2.2.1.2, Sl.of_flat hst.fact.1.1 hst.fact.1.2 (by simp [hl]) hcc4, htv, by simp [hl]; omega⟩⟩
    try simp at hc3
    try (have hz := hb1; simp [hc3] at hz)
    refine wp_skip ?_
    refine then_n ?_
    refine wp_region_lit ?_
    refine l_op rfl (r_fieldAddr hst rfl Tf48_1 rfl ?_)
    clear hst; intro a hst
    refine l_op rfl (r_loads hst rfl Ts3 (.tail _ (.tail _ (.tail _ (.head _)))) rfl rfl ?_)
    clear hst; intro a hst
    refine l_op rfl (r_bin hst rfl rfl rfl rfl rfl ?_)
    clear hst; intro a hst
    rw [wrap_in _ (by omega) (by omega)] at hst
    refine l_op rfl (r_fieldAddr hst rfl Tf48_1 rfl ?_)
    clear hst; intro a hst
    refine l_op rfl (r_store hst rfl rfl rfl Tsz3 rfl (.tail (.tail (.tail (.head (.there (.here (.nil (Nat.zero_le _)))))))) ?_)
    clear hst; intro w hst
    refine wpList_nil ?_
    refine inb_n ?_
    have hst := ((hst.keep (ds := [2, 3, 4, 5]) (.cons rfl (.cons rfl (.cons rfl (.cons rfl (.nil)))))).drop (.cons _ (.cons _ (.cons _ (.cons_cons _ (.cons_cons _ (.cons_cons _ (.cons_cons _ (.slnil)))))))))
    have hst := hst.newFact (Mono.and (Mono.and (Mono.and (Cont.mono _ _) (Flat.mono kC _ _)) (Sl.mono kS _ _)) (Toks.mono A n)) ⟨⟨⟨hst.fact.1.1, hst.fact.1.2⟩, hst.fact.2.2.1.2⟩, hst.fact.2.2.2⟩
    have hmm : mu n (i12 + 1) b12 < mu n i' b' := mu_lt1 (by omega) (by omega)
    exact then_k ⟨_, hmm, _, _, _, _, _, _, _, _, _, _, hst, by omega, by omega, by simp [hl], hcc4, by simp [hxl]; omega, by omega, by grind, htv, rfl⟩
  try simp at hc1
  try (have hz := hb1; simp [hc1] at hz)
  refine l_off hst rfl rfl rfl (by decide) rfl rfl ?_
  clear hst; intro a hst
  refine l_off hst rfl rfl rfl (by decide) rfl rfl ?_
  clear hst; intro a hst
  refine l_off hst rfl rfl rfl (by decide) rfl rfl ?_
  clear hst; intro a hst
  refine l_off hst rfl rfl rfl (by decide) rfl rfl ?_
  clear hst; intro a hst
  refine l_op rfl (r_pick hst rfl rfl rfl ?_)
  clear hst; intro a hst
  refine wpList_nil ?_
  refine then_n ?_
  refine x_cond_f hst rfl ?_
  refine wp_exit ?_
  refine then_x ?_
  refine then_x ?_
  refine inb_hit ?_
  refine then_n ?_
  refine wp_seq ?_
  refine wp_region_lit ?_
  refine l_op rfl (r_loada hst rfl Ta48 (.head _) (.cons rfl (.cons rfl (.cons rfl (.cons rfl (.cons rfl (.cons rfl (.nil))))))) rfl rfl ?_)
  clear hst; intro a hst
  refine l_op rfl (r_call (xs := [(Operand.tmp 42), (Operand.const (Value.int IntKind.i64 6)), (Operand.const (Value.string { data := #[61] }))]) hst rfl Ten13 (take_c _ _ _ _ _ _ _ (by omega) hn (by first | exact hst.fact | exact hst.fact.2 | exact hst.fact.2.2 | exact hst.fact.2.2.2 | exact hst.fact.2.2.2.2) (by omega) (by decide)) rfl ?_)
  clear hst; rintro a _ w U ⟨i1, b1, x1, y1, rfl, ht1⟩ hst
  refine l_op rfl (r_store hst rfl rfl rfl Tsz48 rfl (.head (.here (.here (.here (.here (.here (.here (.nil (Nat.zero_le _))))))))) ?_)
  clear hst; intro w hst
  refine wpList_nil ?_
  refine then_n ?_
  refine wp_block ?_
  have hst := ((((hst.keep (ds := [2, 3, 4, 5]) (.cons rfl (.cons rfl (.cons rfl (.cons rfl (.nil)))))).drop (.cons_cons _ (.cons_cons _ (.cons_cons _ (.cons_cons _ (.slnil))))))).row_drop (RW' := []) (List.nil_sublist _)).row_nil 65 (sz := 4) (by decide)
  have hst := hst.newFact (G := fun w U => ((Cont (.slice none 0 0) [] w U ∧ Flat kC [] [] w U) ∧ Sl kS (.slice B l cc) ts w U) ∧ Toks A n w U) (Mono.and (Mono.and (Mono.and (Cont.mono _ _) (Flat.mono kC _ _)) (Sl.mono kS _ _)) (Toks.mono A n)) ⟨⟨⟨Cont.nil _ _ _, Flat.nil _ _ _⟩, Sl.of_flat hst.fact.1.1 hst.fact.1.2 hl hcc⟩, hst.fact.2⟩
  refine wp_loop_ghost (InvCons _ _ A n c i d b _ _ _ B l cc ts g2 g3 g4 g5) (mu n i1 b1) ⟨_, _, _, _, _, _, _, _, _, _, hst, by omega, by omega, rfl, by omega, rfl, by have := mu_bd n i1 b1 (by omega); omega, by grind, by omega, rfl⟩ ?_
  clear hst
  clear hxl hlm hbb hi1 hi2 hcc hl
  rintro mz a w ⟨U, i', x', y', b', B2, l2, cc2, xs2, ts2, hst, hi1, hi2, hl, hcc, hxl, hlm, hbb, htv, rfl⟩
  refine wp_block ?_
  refine wp_seq ?_
  refine wp_region_lit ?_
  refine l_op rfl (r_loada hst rfl Ta48 (.head _) (.cons rfl (.cons rfl (.cons rfl (.cons rfl (.cons rfl (.cons rfl (.nil))))))) rfl rfl ?_)
  clear hst; intro a hst
  refine l_op rfl (r_call (xs := [(Operand.tmp 45)]) hst rfl Ten41 (con_c hn _ _ _ _ _ (by omega) (by omega) (by omega) (by omega) (by first | exact hst.fact | exact hst.fact.2 | exact hst.fact.2.2 | exact hst.fact.2.2.2 | exact hst.fact.2.2.2.2)) rfl ?_)
  clear hst; rintro a _ w U ⟨i12, b12, x12, y12, p12, q12, s12, B12, l12, c12, t12, rfl, h12a, h12b, h12c, h12⟩ hst
  have hst := hst.addFact (kC.mono _ _) h12
  refine l_op rfl (r_move hst rfl rfl ?_)
  clear hst; intro a hst
  refine l_op rfl (r_extract hst rfl rfl rfl ?_)
  clear hst; intro a hst
  refine l_op rfl (r_extract hst rfl rfl rfl ?_)
  clear hst; intro a hst
  refine l_op rfl (r_alloc hst Tz48 rfl ?_)
  clear hst; intro a w g6 hst
  refine l_op rfl (r_alloc hst Tz65 rfl ?_)
  clear hst; intro a w g7 hst
  refine l_op rfl (r_store hst rfl rfl rfl Tsz48 rfl (.tail (.head (.here (.here (.here (.here (.here (.here (.nil (Nat.zero_le _)))))))))) ?_)
  clear hst; intro w hst
  refine l_op rfl (r_store hst rfl rfl rfl Tsz65 rfl (.head (.here (.here (.here (.here (.nil (Nat.zero_le _))))))) ?_)
  clear hst; intro w hst
  refine wpList_nil ?_
  refine then_n ?_
  refine wp_seq ?_
  refine wp_region_lit ?_
  refine l_op rfl (r_loada hst rfl Ta48 (.tail _ (.head _)) (.cons rfl (.cons rfl (.cons rfl (.cons rfl (.cons rfl (.cons rfl (.nil))))))) rfl rfl ?_)
  clear hst; intro a hst
  refine l_op rfl (r_store hst rfl rfl rfl Tsz48 rfl (.tail (.tail (.head (.here (.here (.here (.here (.here (.here (.nil (Nat.zero_le _))))))))))) ?_)
  clear hst; intro w hst
  refine wpList_nil ?_
  refine then_n ?_
  refine wp_seq ?_
  refine wp_region_lit ?_
  refine l_op rfl (r_fieldAddr hst rfl Tf42_2 rfl ?_)
  clear hst; intro a hst
  refine l_op rfl (r_loads hst rfl Ts40 (.tail _ (.tail _ (.tail _ (.head _)))) rfl rfl ?_)
  clear hst; intro a hst
  refine l_op rfl (r_loada hst rfl Ta65 (.head _) (.cons rfl (.cons rfl (.cons rfl (.cons rfl (.nil))))) rfl rfl ?_)
  clear hst; intro a hst
  refine l_op rfl (r_slice1 hst Tu40 Tsz65 Tz65 rfl (by decide) (by decide) rfl rfl rfl rfl ?_)
  clear hst; intro a w g8 hst
  refine l_op rfl (r_append hst rfl rfl Tet40 (.head _) rfl (by decide) rfl hst.fact.2.1.1.1 hxl (by omega) (by omega) rfl ?_)
  clear hst; intro a v w U hext hcont hv hst
  obtain ⟨B4, c4, rfl, hcc4⟩ := hv
  have hfl := Flat.snoc (K := kC) hst.fact.2.1.1.2 hst.fact.1
  have hst := hst.addFact (Mono.and (Cont.mono _ _) (Flat.mono kC _ _)) ⟨hcont, hfl⟩
  refine l_op rfl (r_fieldAddr hst rfl Tf42_2 rfl ?_)
  clear hst; intro a hst
  refine l_op rfl (r_store hst rfl rfl rfl Tsz40 rfl (.tail (.tail (.tail (.tail (.head (.there (.there (.here (.nil (Nat.zero_le _)))))))))) ?_)
  clear hst; intro w hst
  refine wpList_nil ?_
  refine then_n ?_
  refine wp_seq ?_
  refine wp_seq ?_
  refine wp_region_lit ?_
  refine l_op rfl (r_loada hst rfl Ta48 (.tail _ (.tail _ (.tail _ (.head _)))) (.cons rfl (.cons rfl (.cons rfl (.cons rfl (.cons rfl (.cons rfl (.nil))))))) rfl rfl ?_)
  clear hst; intro a hst
  refine l_op rfl (r_call (xs := [(Operand.tmp 56), (Operand.const (Value.int IntKind.i64 6)), (Operand.const (Value.string { data := #[124] }))]) hst rfl Ten14 (is_c _ _ _ _ _ _ _ (by omega) hn (by first | exact hst.fact | exact hst.fact.2 | exact hst.fact.2.2 | exact hst.fact.2.2.2 | exact hst.fact.2.2.2.2) (by decide)) rfl ?_)
  clear hst; rintro a _ w U ⟨b1, rfl, hb1⟩ hst
  refine l_op rfl (r_not hst rfl rfl ?_)
  clear hst; intro a hst
  refine wpList_nil ?_
  refine then_n ?_
  refine x_cond hst rfl (fun hc4 => ?_) (fun hc4 => ?_)
  · try simp at hc4
    try (have hz := hb1; simp [hc4] at hz)
    refine wp_seq ?_
    refine x_drawh (by kernel_rfl) hst (.cons _ (.cons _ (.cons _ (.cons_cons _ (.cons_cons _ (.cons _ (.cons _ (.slnil)))))))) ?_
    clear hst; intro w hst
    refine h_take (i := 0) hst (.cons _ (.cons _ (.cons _ (.cons_cons _ (.cons_cons _ (.cons _ (.cons _ (.slnil)))))))) rfl rfl rfl rfl (by kernel_rfl) (by kernel_rfl) (by kernel_rfl) (fun _ _ _ h => h) (fun _ _ _ _ hst => q_loada hst rfl Ta48 (.head _) (.cons rfl (.cons rfl (.cons rfl (.cons rfl (.cons rfl (.cons rfl (.nil))))))) rfl) ?_
    clear hst; intro a hst
    refine h_take (i := 1) hst (.cons _ (.cons _ (.cons _ (.cons_cons _ (.cons_cons _ (.cons _ (.cons _ (.slnil)))))))) rfl rfl rfl rfl (by kernel_rfl) (by kernel_rfl) (by kernel_rfl) (fun _ _ _ h => h) (fun _ _ _ _ hst => q_loada hst rfl Ta42 (.tail _ (.head _)) (.cons rfl (.cons rfl (.cons rfl (.cons rfl (.cons rfl (.nil)))))) rfl) ?_
    clear hst; intro a hst
    refine h_one (i := 2) (by kernel_rfl) rfl rfl (r_store hst rfl rfl rfl Tsz48 rfl (.tail (.tail (.tail (.tail (.tail (.tail (.head (.here (.here (.here (.here (.here (.here (.nil (Nat.zero_le _))))))))))))))) ?_)
    clear hst; intro w hst
    refine ⟨hst.held (.cons _ (.cons _ (.cons _ (.cons_cons _ (.cons_cons _ (.cons _ (.cons _ (.slnil)))))))), ?_⟩
    refine h_one (i := 3) (by kernel_rfl) rfl rfl (r_store hst rfl rfl rfl Tsz42 rfl (.tail (.tail (.tail (.tail (.tail (.head (.here (.here (.here (.here (.here (.nil (Nat.zero_le _))))))))))))) ?_)
    clear hst; intro w hst
    refine ⟨hst.held (.cons _ (.cons _ (.cons _ (.cons_cons _ (.cons_cons _ (.cons _ (.cons _ (.slnil)))))))), ?_⟩
    refine h_done (by kernel_rfl) ?_
    refine then_n ?_
    refine wp_ret ?_
    refine then_r ?_
    refine inb_r ?_
    refine then_r ?_
    refine inb_r ?_
    refine x_ret (rs := [.cell 2 48, .cell 3 42]) hst rfl (.agg rfl Ta48 (.tail _ (.tail _ (.tail _ (.tail _ (.tail _ (.tail _ (.head _))))))) rfl (.agg rfl Ta42 (.tail _ (.tail _ (.tail _ (.tail _ (.tail _ (.head _)))))) rfl (.nil))) ?_
    exact ⟨_, _, _, _, _, _, _, _, _, _, _, _, _, ⟨_, _, _⟩, rfl, by grind, by grind, by grind, ⟨_, _, _, _, _, rfl, rfl, hst.fact.2.2.1.2, Sl.of_flat hst.fact.1.1 hst.fact.1.2 (by simp [hl]) hcc4, htv, by simp [hl]; omega⟩⟩
  try simp at hc4
  try (have hz := hb1; simp [hc4] at hz)
  refine wp_skip ?_
  refine then_n ?_
  refine wp_region_lit ?_
  refine l_op rfl (r_fieldAddr hst rfl Tf48_1 rfl ?_)
  clear hst; intro a hst
  refine l_op rfl (r_loads hst rfl Ts3 (.tail _ (.tail _ (.tail _ (.head _)))) rfl rfl ?_)
  clear hst; intro a hst
  refine l_op rfl (r_bin hst rfl rfl rfl rfl rfl ?_)
  clear hst; intro a hst
  rw [wrap_in _ (by omega) (by omega)] at hst
  refine l_op rfl (r_fieldAddr hst rfl Tf48_1 rfl ?_)
  clear hst; intro a hst
  refine l_op rfl (r_store hst rfl rfl rfl Tsz3 rfl (.tail (.tail (.tail (.head (.there (.here (.nil (Nat.zero_le _)))))))) ?_)
  clear hst; intro w hst
  refine wpList_nil ?_
  refine inb_n ?_
  have hst := ((hst.keep (ds := [2, 3, 4, 5]) (.cons rfl (.cons rfl (.cons rfl (.cons rfl (.nil)))))).drop (.cons _ (.cons _ (.cons _ (.cons_cons _ (.cons_cons _ (.cons_cons _ (.cons_cons _ (.slnil)))))))))
  have hst := hst.newFact (Mono.and (Mono.and (Mono.and (Cont.mono _ _) (Flat.mono kC _ _)) (Sl.mono kS _ _)) (Toks.mono A n)) ⟨⟨⟨hst.fact.1.1, hst.fact.1.2⟩, hst.fact.2.2.1.2⟩, hst.fact.2.2.2⟩
  have hmm : mu n (i12 + 1) b12 < mu n i' b' := mu_lt1 (by omega) (by omega)
  exact then_k ⟨_, hmm, _, _, _, _, _, _, _, _, _, _, hst, by omega, by omega, by simp [hl], hcc4, by simp [hxl]; omega, by omega, by grind, htv, rfl⟩

/-- What holds at the head of the loop over a rule's patterns. -/
def InvPats (w0 : World) (U0 : Mk) (A : Option Addr) (n c : Nat) (i d : Int) (b : Bool) (nm : ByteArray) (p q : Int) (g2 g3 g4 g5 : Nat) (mz : Nat) (a : Act) (w : World) : Prop :=
  ∃ (U : Mk) (i' x' y' : Int) (b' : Bool) (B : Option Addr) (l cc : Nat) (xs : List Value) (ts : List ExT),
    Sta w0 U0 74 [(2, .pointer (some ⟨g2, 0, none⟩)), (3, .pointer (some ⟨g3, 0, none⟩)), (4, .pointer (some ⟨g4, 0, none⟩)), (5, .pointer (some ⟨g5, 0, none⟩))] [⟨g5, 48, [.slice A n c, .int .i64 i', .int .i64 d, .bool b', .int .i64 x', .int .i64 y']⟩, ⟨g4, 60, [.string nm, .slice B l cc, .slice none 0 0, .int .i64 0, .string ⟨#[]⟩, .int .i64 0, .slice none 0 0, .int .i64 0, .int .i64 0, .int .i64 p, .int .i64 q]⟩, ⟨g3, 60, [.string ⟨#[]⟩, .slice none 0 0, .slice none 0 0, .int .i64 0, .string ⟨#[]⟩, .int .i64 0, .slice none 0 0, .int .i64 0, .int .i64 0, .int .i64 0, .int .i64 0]⟩, ⟨g2, 48, [.slice none 0 0, .int .i64 0, .int .i64 0, .bool false, .int .i64 0, .int .i64 0]⟩] [⟨.slice B l cc, 58, 6, l⟩] (fun w U => (Cont (.slice B l cc) xs w U ∧ Flat kE xs ts w U) ∧ Toks A n w U) a w U ∧
    i ≤ i' ∧ i' ≤ n ∧ ts.length = l ∧ l ≤ cc ∧ xs.length = l * 6 ∧ l + mu n i' b' ≤ 2 * n + 2 ∧ (b' = true ∨ (b = false ∧ i < i')) ∧ mz = mu n i' b'

theorem rule_c {A : Option Addr} {n c : Nat} (hn : n ≤ 1000000) {w : World} {U : Mk} (i d x y : Int) (b : Bool) (h0 : 0 ≤ i) (hin : i ≤ n) (hd0 : 0 ≤ d) (hd : d ≤ 40) (hT : Toks A n w U) :
    CallsS Tryz.prog 16 [.agg #[.slice A n c, .int .i64 i, .int .i64 d, .bool b, .int .i64 x, .int .i64 y]] w U (fun v w' U' => ∃ (i2 : Int) (b2 : Bool) (x2 y2 p q k5 m5 p5 q5 : Int) (s s5 : ByteArray) (B B' B5 : Option Addr) (l c2 l' c' l5 c5 : Nat) (t : RuT), v = .tuple #[.agg #[.slice A n c, .int .i64 i2, .int .i64 d, .bool b2, .int .i64 x2, .int .i64 y2], .agg #[.string s, .slice B l c2, .slice B' l' c', .int .i64 k5, .string s5, .int .i64 m5, .slice B5 l5 c5, .int .i64 p5, .int .i64 q5, .int .i64 p, .int .i64 q]] ∧ i ≤ i2 ∧ i2 ≤ n ∧ (b2 = true ∨ (b = false ∧ i < i2)) ∧ kR.R [.string s, .slice B l c2, .slice B' l' c', .int .i64 k5, .string s5, .int .i64 m5, .slice B5 l5 c5, .int .i64 p5, .int .i64 q5, .int .i64 p, .int .i64 q] t w' U') := by
  refine x_enter (F := Toks A n) (n := 74) Tryz.func16 rfl rfl (by simp) (.cons (d := 0) rfl (.nil)) (Toks.mono A n) (hT) ?_
  intro a hst
  refine wp_seq ?_
  refine wp_region_lit ?_
  refine l_op rfl (r_box hst rfl rfl rfl ?_)
  clear hst; intro a w g1 hst
  refine l_op rfl (r_alloc hst Tz48 rfl ?_)
  clear hst; intro a w g2 hst
  refine l_op rfl (r_alloc hst Tz60 rfl ?_)
  clear hst; intro a w g3 hst
  refine wpList_nil ?_
  refine then_n ?_
  refine wp_seq ?_
  refine wp_region_lit ?_
  refine l_op rfl (r_loada hst rfl Ta48 (.tail _ (.tail _ (.head _))) (.cons rfl (.cons rfl (.cons rfl (.cons rfl (.cons rfl (.cons rfl (.nil))))))) rfl rfl ?_)
  clear hst; intro a hst
  refine l_op rfl (r_call (xs := [(Operand.tmp 13)]) hst rfl Ten12 (now_c _ _ _ _ _ (by omega) hn (by first | exact hst.fact | exact hst.fact.2 | exact hst.fact.2.2 | exact hst.fact.2.2.2 | exact hst.fact.2.2.2.2)) rfl ?_)
  clear hst; rintro a _ w U ⟨k1, m1, p1, q1, s1, rfl, hk1⟩ hst
  refine l_op rfl (r_fielda hst rfl Tfa50_3 (.cons rfl (.cons rfl (.nil))) rfl rfl ?_)
  clear hst; intro a hst
  refine l_op rfl (r_build (ps := [(4, (Operand.tmp 15))]) hst Tso60 Tz60 (.cons Tf60_4 rfl rfl (.there (.there (.there (.there (.there (.there (.there (.there (.there (.here (.here (.nil (Nat.zero_le _))))))))))))) (.nil)) rfl ?_)
  clear hst; intro a hst
  refine l_op rfl (r_alloc hst Tz60 rfl ?_)
  clear hst; intro a w g4 hst
  refine l_op rfl (r_store hst rfl rfl rfl Tsz60 rfl (.head (.here (.here (.here (.here (.here (.here (.here (.here (.here (.here (.here (.nil (Nat.zero_le _)))))))))))))) ?_)
  clear hst; intro w hst
  refine wpList_nil ?_
  refine then_n ?_
  refine wp_seq ?_
  refine wp_region_lit ?_
  refine l_op rfl (r_loada hst rfl Ta48 (.tail _ (.tail _ (.tail _ (.head _)))) (.cons rfl (.cons rfl (.cons rfl (.cons rfl (.cons rfl (.cons rfl (.nil))))))) rfl rfl ?_)
  clear hst; intro a hst
  refine l_op rfl (r_call (xs := [(Operand.tmp 18), (Operand.const (Value.int IntKind.i64 2))]) hst rfl Ten40 (name_c _ _ _ _ _ _ (by omega) hn (by first | exact hst.fact | exact hst.fact.2 | exact hst.fact.2.2 | exact hst.fact.2.2.2 | exact hst.fact.2.2.2.2) (by omega) (by decide)) rfl ?_)
  clear hst; rintro a _ w U ⟨i2, b2, x2, y2, s2, rfl, hn2⟩ hst
  refine l_op rfl (r_move hst rfl rfl ?_)
  clear hst; intro a hst
  refine l_op rfl (r_extract hst rfl rfl rfl ?_)
  clear hst; intro a hst
  refine l_op rfl (r_extract hst rfl rfl rfl ?_)
  clear hst; intro a hst
  refine l_op rfl (r_alloc hst Tz48 rfl ?_)
  clear hst; intro a w g5 hst
  refine l_op rfl (r_store hst rfl rfl rfl Tsz48 rfl (.head (.here (.here (.here (.here (.here (.here (.nil (Nat.zero_le _))))))))) ?_)
  clear hst; intro w hst
  refine l_op rfl (r_assign hst rfl rfl ?_)
  clear hst; intro a hst
  refine wpList_nil ?_
  refine then_n ?_
  refine wp_seq ?_
  refine wp_region_lit ?_
  refine l_op rfl (r_move hst rfl rfl ?_)
  clear hst; intro a hst
  refine l_op rfl (r_fieldAddr hst rfl Tf60_0 rfl ?_)
  clear hst; intro a hst
  refine l_op rfl (r_store hst rfl rfl rfl Tsz9 rfl (.tail (.head (.here (.nil (Nat.zero_le _))))) ?_)
  clear hst; intro w hst
  refine wpList_nil ?_
  refine then_n ?_
  refine wp_seq ?_
  refine wp_block ?_
  have hst := (((hst.keep (ds := [2, 3, 4, 5]) (.cons rfl (.cons rfl (.cons rfl (.cons rfl (.nil)))))).drop (.cons_cons _ (.cons_cons _ (.cons_cons _ (.cons_cons _ (.cons _ (.slnil)))))))).row_nil 58 (sz := 6) (by decide)
  have hst := hst.newFact (G := fun w U => (Cont (.slice none 0 0) [] w U ∧ Flat kE [] [] w U) ∧ Toks A n w U) (Mono.and (Mono.and (Cont.mono _ _) (Flat.mono kE _ _)) (Toks.mono A n)) ⟨⟨Cont.nil _ _ _, Flat.nil _ _ _⟩, hst.fact⟩
  refine wp_loop_ghost (InvPats _ _ A n c i d b s2 p1 q1 g2 g3 g4 g5) (mu n i2 b2) ⟨_, _, _, _, _, _, _, _, _, _, hst, by omega, by omega, rfl, by omega, rfl, by have := mu_bd n i2 b2 (by omega); omega, by grind, rfl⟩ ?_
  clear hst
  rintro mz a w ⟨U, i', x', y', b', B, l, cc, xs, ts, hst, hi1, hi2, hl, hcc, hxl, hlm, hbb, rfl⟩
  refine wp_seq ?_
  refine wp_seq ?_
  refine wp_region_lit ?_
  refine l_op rfl (r_fieldAddr hst rfl Tf48_3 rfl ?_)
  clear hst; intro a hst
  refine l_op rfl (r_loads hst rfl Ts4 (.head _) rfl rfl ?_)
  clear hst; intro a hst
  refine l_op rfl (r_not hst rfl rfl ?_)
  clear hst; intro a hst
  refine l_op rfl (r_move hst rfl rfl ?_)
  clear hst; intro a hst
  refine hst.split (t := 27) rfl (fun hc1 hst => ?_) (fun hc1 hst => ?_)
  · try simp at hc1
    try (have hz := hb1; simp [hc1] at hz)
    refine l_on hst rfl rfl rfl (r_loada hst rfl Ta48 (.head _) (.cons rfl (.cons rfl (.cons rfl (.cons rfl (.cons rfl (.cons rfl (.nil))))))) rfl rfl ?_)
    clear hst; intro a hst
    refine l_on hst rfl rfl rfl (r_call (xs := [(Operand.tmp 28), (Operand.const (Value.int IntKind.i64 6)), (Operand.const (Value.string { data := #[124] }))]) hst rfl Ten14 (is_c _ _ _ _ _ _ _ (by omega) hn (by first | exact hst.fact | exact hst.fact.2 | exact hst.fact.2.2 | exact hst.fact.2.2.2 | exact hst.fact.2.2.2.2) (by decide)) rfl ?_)
    clear hst; rintro a _ w U ⟨b1, rfl, hb1⟩ hst
    refine l_on hst rfl rfl rfl (r_not hst rfl rfl ?_)
    clear hst; intro a hst
    refine l_op rfl (r_pick hst rfl rfl rfl ?_)
    clear hst; intro a hst
    refine l_op rfl (r_move hst rfl rfl ?_)
    clear hst; intro a hst
    refine hst.split (t := 32) rfl (fun hc2 hst => ?_) (fun hc2 hst => ?_)
    · try simp at hc2
      try (have hz := hb1; simp [hc2] at hz)
      refine l_on hst rfl rfl rfl (r_loada hst rfl Ta48 (.head _) (.cons rfl (.cons rfl (.cons rfl (.cons rfl (.cons rfl (.cons rfl (.nil))))))) rfl rfl ?_)
      clear hst; intro a hst
      refine l_on hst rfl rfl rfl (r_call (xs := [(Operand.tmp 33), (Operand.const (Value.int IntKind.i64 6)), (Operand.const (Value.string { data := #[61] }))]) hst rfl Ten14 (is_c _ _ _ _ _ _ _ (by omega) hn (by first | exact hst.fact | exact hst.fact.2 | exact hst.fact.2.2 | exact hst.fact.2.2.2 | exact hst.fact.2.2.2.2) (by decide)) rfl ?_)
      clear hst; rintro a _ w U ⟨b1, rfl, hb1⟩ hst
      refine l_on hst rfl rfl rfl (r_not hst rfl rfl ?_)
      clear hst; intro a hst
      refine l_op rfl (r_pick hst rfl rfl rfl ?_)
      clear hst; intro a hst
      refine wpList_nil ?_
      refine then_n ?_
      refine x_cond hst rfl (fun hc3 => ?_) (fun hc3 => ?_)
      · try simp at hc3
        try (have hz := hb1; simp [hc3] at hz)
        refine wp_skip ?_
        refine then_n ?_
        refine wp_block ?_
        refine wp_seq ?_
        refine wp_region_lit ?_
        refine l_op rfl (r_loada hst rfl Ta48 (.head _) (.cons rfl (.cons rfl (.cons rfl (.cons rfl (.cons rfl (.cons rfl (.nil))))))) rfl rfl ?_)
        clear hst; intro a hst
        refine l_op rfl (r_call (xs := [(Operand.tmp 38)]) hst rfl Ten42 (pat_all hn _ _ _ _ _ _ _ _ (by omega) (by omega) (by omega) (by omega) (Nat.le_refl _) (by first | exact hst.fact | exact hst.fact.2 | exact hst.fact.2.2 | exact hst.fact.2.2.2 | exact hst.fact.2.2.2.2)) rfl ?_)
        clear hst; rintro a _ w U ⟨i9, b9, x9, y9, k9, m9, p9, q9, s9, B9, l9, c9, t9, rfl, h9a, h9b, h9c, h9⟩ hst
        have hst := hst.addFact (ERep.mono _ _) h9
        refine l_op rfl (r_move hst rfl rfl ?_)
        clear hst; intro a hst
        refine l_op rfl (r_extract hst rfl rfl rfl ?_)
        clear hst; intro a hst
        refine l_op rfl (r_extract hst rfl rfl rfl ?_)
        clear hst; intro a hst
        refine l_op rfl (r_alloc hst Tz48 rfl ?_)
        clear hst; intro a w g6 hst
        refine l_op rfl (r_alloc hst Tz58 rfl ?_)
        clear hst; intro a w g7 hst
        refine l_op rfl (r_store hst rfl rfl rfl Tsz48 rfl (.tail (.head (.here (.here (.here (.here (.here (.here (.nil (Nat.zero_le _)))))))))) ?_)
        clear hst; intro w hst
        refine l_op rfl (r_store hst rfl rfl rfl Tsz58 rfl (.head (.here (.here (.here (.here (.here (.here (.nil (Nat.zero_le _))))))))) ?_)
        clear hst; intro w hst
        refine wpList_nil ?_
        refine then_n ?_
        refine wp_seq ?_
        refine wp_region_lit ?_
        refine l_op rfl (r_loada hst rfl Ta48 (.tail _ (.head _)) (.cons rfl (.cons rfl (.cons rfl (.cons rfl (.cons rfl (.cons rfl (.nil))))))) rfl rfl ?_)
        clear hst; intro a hst
        refine l_op rfl (r_store hst rfl rfl rfl Tsz48 rfl (.tail (.tail (.head (.here (.here (.here (.here (.here (.here (.nil (Nat.zero_le _))))))))))) ?_)
        clear hst; intro w hst
        refine wpList_nil ?_
        refine then_n ?_
        refine wp_region_lit ?_
        refine l_op rfl (r_fieldAddr hst rfl Tf60_1 rfl ?_)
        clear hst; intro a hst
        refine l_op rfl (r_loads hst rfl Ts56 (.tail _ (.tail _ (.tail _ (.head _)))) rfl rfl ?_)
        clear hst; intro a hst
        refine l_op rfl (r_loada hst rfl Ta58 (.head _) (.cons rfl (.cons rfl (.cons rfl (.cons rfl (.cons rfl (.cons rfl (.nil))))))) rfl rfl ?_)
        clear hst; intro a hst
        refine l_op rfl (r_slice1 hst Tu56 Tsz58 Tz58 rfl (by decide) (by decide) rfl rfl rfl rfl ?_)
        clear hst; intro a w g8 hst
        refine l_op rfl (r_append hst rfl rfl Tet56 (.head _) rfl (by decide) rfl hst.fact.2.1.1 hxl (by omega) (by omega) rfl ?_)
        clear hst; intro a v w U hext hcont hv hst
        obtain ⟨B2, c2, rfl, hcc2⟩ := hv
        have hfl := Flat.snoc (K := kE) hst.fact.2.1.2 hst.fact.1
        have hst := hst.addFact (Mono.and (Cont.mono _ _) (Flat.mono kE _ _)) ⟨hcont, hfl⟩
        refine l_op rfl (r_fieldAddr hst rfl Tf60_1 rfl ?_)
        clear hst; intro a hst
        refine l_op rfl (r_store hst rfl rfl rfl Tsz56 rfl (.tail (.tail (.tail (.tail (.head (.there (.here (.nil (Nat.zero_le _))))))))) ?_)
        clear hst; intro w hst
        refine wpList_nil ?_
        refine inb_n ?_
        have hst := ((hst.keep (ds := [2, 3, 4, 5]) (.cons rfl (.cons rfl (.cons rfl (.cons rfl (.nil)))))).drop (.cons _ (.cons _ (.cons _ (.cons_cons _ (.cons_cons _ (.cons_cons _ (.cons_cons _ (.slnil)))))))))
        have hst := hst.newFact (Mono.and (Mono.and (Cont.mono _ _) (Flat.mono kE _ _)) (Toks.mono A n)) ⟨⟨hst.fact.1.1, hst.fact.1.2⟩, hst.fact.2.2.2⟩
        have hmm : mu n i9 b9 < mu n i' b' := mu_lt (by grind) (by omega) (by omega) (by grind)
        exact then_k ⟨_, hmm, _, _, _, _, _, _, _, _, _, _, hst, by omega, by omega, by simp [hl], hcc2, by simp [hxl]; omega, by omega, by grind, rfl⟩
      try simp at hc3
      try (have hz := hb1; simp [hc3] at hz)
      refine wp_exit ?_
      refine then_x ?_
      refine then_x ?_
      refine inb_hit ?_
      refine then_n ?_
      refine wp_seq ?_
      refine wp_seq ?_
      have hsl := Sl.of_flat hst.fact.1.1 hst.fact.1.2 hl hcc
      have hst := (hst.row_drop (RW' := []) (List.nil_sublist _)).newFact (Mono.and (Sl.mono kE _ _) (Toks.mono A n)) ⟨hsl, hst.fact.2⟩
      refine wp_region_lit ?_
      refine l_op rfl (r_loada hst rfl Ta48 (.head _) (.cons rfl (.cons rfl (.cons rfl (.cons rfl (.cons rfl (.cons rfl (.nil))))))) rfl rfl ?_)
      clear hst; intro a hst
      refine l_op rfl (r_call (xs := [(Operand.tmp 49), (Operand.const (Value.int IntKind.i64 6)), (Operand.const (Value.string { data := #[124] }))]) hst rfl Ten14 (is_c _ _ _ _ _ _ _ (by omega) hn (by first | exact hst.fact | exact hst.fact.2 | exact hst.fact.2.2 | exact hst.fact.2.2.2 | exact hst.fact.2.2.2.2) (by decide)) rfl ?_)
      clear hst; rintro a _ w U ⟨b1, rfl, hb1⟩ hst
      refine wpList_nil ?_
      refine then_n ?_
      refine x_cond hst rfl (fun hc4 => ?_) (fun hc4 => ?_)
      · try simp at hc4
        try (have hz := hb1; simp [hc4] at hz)
        refine wp_seq ?_
        refine wp_region_lit ?_
        refine l_op rfl (r_fieldAddr hst rfl Tf48_1 rfl ?_)
        clear hst; intro a hst
        refine l_op rfl (r_loads hst rfl Ts3 (.head _) rfl rfl ?_)
        clear hst; intro a hst
        refine l_op rfl (r_bin hst rfl rfl rfl rfl rfl ?_)
        clear hst; intro a hst
        rw [wrap_in _ (by omega) (by omega)] at hst
        refine l_op rfl (r_fieldAddr hst rfl Tf48_1 rfl ?_)
        clear hst; intro a hst
        refine l_op rfl (r_store hst rfl rfl rfl Tsz3 rfl (.head (.there (.here (.nil (Nat.zero_le _))))) ?_)
        clear hst; intro w hst
        refine wpList_nil ?_
        refine then_n ?_
        refine wp_seq ?_
        refine wp_region_lit ?_
        refine l_op rfl (r_loada hst rfl Ta48 (.head _) (.cons rfl (.cons rfl (.cons rfl (.cons rfl (.cons rfl (.cons rfl (.nil))))))) rfl rfl ?_)
        clear hst; intro a hst
        refine l_op rfl (r_call (xs := [(Operand.tmp 56)]) hst rfl Ten43 ((exprs_all hn _).1 _ _ _ _ _ _ _ (by omega) (by omega) (by omega) (by omega) (Nat.le_refl _) (by first | exact hst.fact | exact hst.fact.2 | exact hst.fact.2.2 | exact hst.fact.2.2.2 | exact hst.fact.2.2.2.2)) rfl ?_)
        clear hst; rintro a _ w U ⟨i9, b9, x9, y9, k9, m9, p9, q9, s9, B9, l9, c9, t9, rfl, h9a, h9b, h9c, h9⟩ hst
        have hst := hst.addFact (ERep.mono _ _) h9
        refine l_op rfl (r_move hst rfl rfl ?_)
        clear hst; intro a hst
        refine l_op rfl (r_extract hst rfl rfl rfl ?_)
        clear hst; intro a hst
        refine l_op rfl (r_extract hst rfl rfl rfl ?_)
        clear hst; intro a hst
        refine l_op rfl (r_alloc hst Tz48 rfl ?_)
        clear hst; intro a w g6 hst
        refine l_op rfl (r_alloc hst Tz58 rfl ?_)
        clear hst; intro a w g7 hst
        refine l_op rfl (r_store hst rfl rfl rfl Tsz48 rfl (.tail (.head (.here (.here (.here (.here (.here (.here (.nil (Nat.zero_le _)))))))))) ?_)
        clear hst; intro w hst
        refine l_op rfl (r_store hst rfl rfl rfl Tsz58 rfl (.head (.here (.here (.here (.here (.here (.here (.nil (Nat.zero_le _))))))))) ?_)
        clear hst; intro w hst
        refine wpList_nil ?_
        refine then_n ?_
        refine wp_seq ?_
        refine wp_region_lit ?_
        refine l_op rfl (r_loada hst rfl Ta48 (.tail _ (.head _)) (.cons rfl (.cons rfl (.cons rfl (.cons rfl (.cons rfl (.cons rfl (.nil))))))) rfl rfl ?_)
        clear hst; intro a hst
        refine l_op rfl (r_store hst rfl rfl rfl Tsz48 rfl (.tail (.tail (.head (.here (.here (.here (.here (.here (.here (.nil (Nat.zero_le _))))))))))) ?_)
        clear hst; intro w hst
        refine wpList_nil ?_
        refine then_n ?_
        refine wp_region_lit ?_
        refine l_op rfl (r_loada hst rfl Ta58 (.head _) (.cons rfl (.cons rfl (.cons rfl (.cons rfl (.cons rfl (.cons rfl (.nil))))))) rfl rfl ?_)
        clear hst; intro a hst
        refine l_op rfl (r_slice1 hst Tu56 Tsz58 Tz58 rfl (by decide) (by decide) rfl rfl rfl rfl ?_)
        clear hst; intro a w g8 hst
        refine l_op rfl (r_fieldAddr hst rfl Tf60_2 rfl ?_)
        clear hst; intro a hst
        refine l_op rfl (r_store hst rfl rfl rfl Tsz56 rfl (.tail (.tail (.tail (.tail (.head (.there (.there (.here (.nil (Nat.zero_le _)))))))))) ?_)
        clear hst; intro w hst
        refine wpList_nil ?_
        refine then_n ?_
        refine wp_seq ?_
        refine wp_region_lit ?_
        refine l_op rfl (r_loada hst rfl Ta48 (.tail _ (.tail _ (.tail _ (.head _)))) (.cons rfl (.cons rfl (.cons rfl (.cons rfl (.cons rfl (.cons rfl (.nil))))))) rfl rfl ?_)
        clear hst; intro a hst
        refine l_op rfl (r_call (xs := [(Operand.tmp 65), (Operand.const (Value.int IntKind.i64 6)), (Operand.const (Value.string { data := #[61] }))]) hst rfl Ten13 (take_c _ _ _ _ _ _ _ (by omega) hn (by first | exact hst.fact | exact hst.fact.2 | exact hst.fact.2.2 | exact hst.fact.2.2.2 | exact hst.fact.2.2.2.2) (by omega) (by decide)) rfl ?_)
        clear hst; rintro a _ w U ⟨i1, b1, x1, y1, rfl, ht1⟩ hst
        refine l_op rfl (r_call (xs := [(Operand.tmp 66)]) hst rfl Ten43 ((exprs_all hn _).1 _ _ _ _ _ _ _ (by omega) (by omega) (by omega) (by omega) (Nat.le_refl _) (by first | exact hst.fact | exact hst.fact.2 | exact hst.fact.2.2 | exact hst.fact.2.2.2 | exact hst.fact.2.2.2.2)) rfl ?_)
        clear hst; rintro a _ w U ⟨i11, b11, x11, y11, k11, m11, p11, q11, s11, B11, l11, c11, t11, rfl, h11a, h11b, h11c, h11⟩ hst
        have hst := hst.addFact (ERep.mono _ _) h11
        refine l_op rfl (r_move hst rfl rfl ?_)
        clear hst; intro a hst
        refine l_op rfl (r_extract hst rfl rfl rfl ?_)
        clear hst; intro a hst
        refine l_op rfl (r_extract hst rfl rfl rfl ?_)
        clear hst; intro a hst
        refine l_op rfl (r_alloc hst Tz48 rfl ?_)
        clear hst; intro a w g9 hst
        refine l_op rfl (r_alloc hst Tz58 rfl ?_)
        clear hst; intro a w g10 hst
        refine l_op rfl (r_store hst rfl rfl rfl Tsz48 rfl (.tail (.head (.here (.here (.here (.here (.here (.here (.nil (Nat.zero_le _)))))))))) ?_)
        clear hst; intro w hst
        refine l_op rfl (r_store hst rfl rfl rfl Tsz58 rfl (.head (.here (.here (.here (.here (.here (.here (.nil (Nat.zero_le _))))))))) ?_)
        clear hst; intro w hst
        refine wpList_nil ?_
        refine then_n ?_
        refine wp_seq ?_
        refine wp_region_lit ?_
        refine l_op rfl (r_loada hst rfl Ta58 (.head _) (.cons rfl (.cons rfl (.cons rfl (.cons rfl (.cons rfl (.cons rfl (.nil))))))) rfl rfl ?_)
        clear hst; intro a hst
        refine l_op rfl (r_fieldAddr hst rfl Tf60_3 rfl ?_)
        clear hst; intro a hst
        refine l_op rfl (r_store hst rfl rfl rfl Tsz58 rfl (.tail (.tail (.tail (.tail (.tail (.tail (.head (.there (.there (.there (.here (.here (.here (.here (.here (.here (.nil (Nat.zero_le _)))))))))))))))))) ?_)
        clear hst; intro w hst
        refine wpList_nil ?_
        refine then_n ?_
        refine wp_seq ?_
        refine x_drawh (by kernel_rfl) hst (.cons _ (.cons_cons _ (.cons _ (.cons _ (.cons _ (.cons _ (.cons_cons _ (.cons _ (.cons _ (.slnil)))))))))) ?_
        clear hst; intro w hst
        refine h_take (i := 0) hst (.cons _ (.cons_cons _ (.cons _ (.cons _ (.cons _ (.cons _ (.cons_cons _ (.cons _ (.cons _ (.slnil)))))))))) rfl rfl rfl rfl (by kernel_rfl) (by kernel_rfl) (by kernel_rfl) (fun _ _ _ h => h) (fun _ _ _ _ hst => q_loada hst rfl Ta48 (.head _) (.cons rfl (.cons rfl (.cons rfl (.cons rfl (.cons rfl (.cons rfl (.nil))))))) rfl) ?_
        clear hst; intro a hst
        refine h_take (i := 1) hst (.cons _ (.cons_cons _ (.cons _ (.cons _ (.cons _ (.cons _ (.cons_cons _ (.cons _ (.cons _ (.slnil)))))))))) rfl rfl rfl rfl (by kernel_rfl) (by kernel_rfl) (by kernel_rfl) (fun _ _ _ h => h) (fun _ _ _ _ hst => q_loada hst rfl Ta60 (.tail _ (.head _)) (.cons rfl (.cons rfl (.cons rfl (.cons rfl (.cons rfl (.cons rfl (.cons rfl (.cons rfl (.cons rfl (.cons rfl (.cons rfl (.nil)))))))))))) rfl) ?_
        clear hst; intro a hst
        refine h_one (i := 2) (by kernel_rfl) rfl rfl (r_store hst rfl rfl rfl Tsz48 rfl (.tail (.tail (.tail (.tail (.tail (.tail (.tail (.tail (.head (.here (.here (.here (.here (.here (.here (.nil (Nat.zero_le _))))))))))))))))) ?_)
        clear hst; intro w hst
        refine ⟨hst.held (.cons _ (.cons_cons _ (.cons _ (.cons _ (.cons _ (.cons _ (.cons_cons _ (.cons _ (.cons _ (.slnil)))))))))), ?_⟩
        refine h_one (i := 3) (by kernel_rfl) rfl rfl (r_store hst rfl rfl rfl Tsz60 rfl (.tail (.tail (.tail (.tail (.tail (.tail (.tail (.head (.here (.here (.here (.here (.here (.here (.here (.here (.here (.here (.here (.nil (Nat.zero_le _))))))))))))))))))))) ?_)
        clear hst; intro w hst
        refine ⟨hst.held (.cons _ (.cons_cons _ (.cons _ (.cons _ (.cons _ (.cons _ (.cons_cons _ (.cons _ (.cons _ (.slnil)))))))))), ?_⟩
        refine h_done (by kernel_rfl) ?_
        refine then_n ?_
        refine wp_ret ?_
        obtain ⟨U, hext, hcont, hst⟩ := hst.settle_ (.tail (.tail (.head)))
        have hgl := Sl.of_flat (hcont 1 1) (Flat.one (K := kE) hst.fact.2.1) rfl (by decide)
        refine x_ret (rs := [.cell 2 48, .cell 3 60]) hst rfl (.agg rfl Ta48 (.tail _ (.tail _ (.tail _ (.tail _ (.tail _ (.tail _ (.tail _ (.head _)))))))) rfl (.agg rfl Ta60 (.tail _ (.tail _ (.tail _ (.tail _ (.tail _ (.tail _ (.head _))))))) rfl (.nil))) ?_
        exact ⟨_, _, _, _, _, _, _, _, _, _, _, _, _, _, _, _, _, _, _, _, _, ⟨_, _, _, _⟩, rfl, by grind, by grind, by grind, ⟨_, _, _, [_, _, _, _, _, _], _, _, rfl, rfl, hst.fact.2.2.1, hgl, hst.fact.1, by simp only []; omega⟩⟩
      try simp at hc4
      try (have hz := hb1; simp [hc4] at hz)
      refine wp_skip ?_
      refine then_n ?_
      refine wp_seq ?_
      refine wp_region_lit ?_
      refine l_op rfl (r_loada hst rfl Ta48 (.head _) (.cons rfl (.cons rfl (.cons rfl (.cons rfl (.cons rfl (.cons rfl (.nil))))))) rfl rfl ?_)
      clear hst; intro a hst
      refine l_op rfl (r_call (xs := [(Operand.tmp 65), (Operand.const (Value.int IntKind.i64 6)), (Operand.const (Value.string { data := #[61] }))]) hst rfl Ten13 (take_c _ _ _ _ _ _ _ (by omega) hn (by first | exact hst.fact | exact hst.fact.2 | exact hst.fact.2.2 | exact hst.fact.2.2.2 | exact hst.fact.2.2.2.2) (by omega) (by decide)) rfl ?_)
      clear hst; rintro a _ w U ⟨i1, b1, x1, y1, rfl, ht1⟩ hst
      refine l_op rfl (r_call (xs := [(Operand.tmp 66)]) hst rfl Ten43 ((exprs_all hn _).1 _ _ _ _ _ _ _ (by omega) (by omega) (by omega) (by omega) (Nat.le_refl _) (by first | exact hst.fact | exact hst.fact.2 | exact hst.fact.2.2 | exact hst.fact.2.2.2 | exact hst.fact.2.2.2.2)) rfl ?_)
      clear hst; rintro a _ w U ⟨i11, b11, x11, y11, k11, m11, p11, q11, s11, B11, l11, c11, t11, rfl, h11a, h11b, h11c, h11⟩ hst
      have hst := hst.addFact (ERep.mono _ _) h11
      refine l_op rfl (r_move hst rfl rfl ?_)
      clear hst; intro a hst
      refine l_op rfl (r_extract hst rfl rfl rfl ?_)
      clear hst; intro a hst
      refine l_op rfl (r_extract hst rfl rfl rfl ?_)
      clear hst; intro a hst
      refine l_op rfl (r_alloc hst Tz48 rfl ?_)
      clear hst; intro a w g6 hst
      refine l_op rfl (r_alloc hst Tz58 rfl ?_)
      clear hst; intro a w g7 hst
      refine l_op rfl (r_store hst rfl rfl rfl Tsz48 rfl (.tail (.head (.here (.here (.here (.here (.here (.here (.nil (Nat.zero_le _)))))))))) ?_)
      clear hst; intro w hst
      refine l_op rfl (r_store hst rfl rfl rfl Tsz58 rfl (.head (.here (.here (.here (.here (.here (.here (.nil (Nat.zero_le _))))))))) ?_)
      clear hst; intro w hst
      refine wpList_nil ?_
      refine then_n ?_
      refine wp_seq ?_
      refine wp_region_lit ?_
      refine l_op rfl (r_loada hst rfl Ta58 (.head _) (.cons rfl (.cons rfl (.cons rfl (.cons rfl (.cons rfl (.cons rfl (.nil))))))) rfl rfl ?_)
      clear hst; intro a hst
      refine l_op rfl (r_fieldAddr hst rfl Tf60_3 rfl ?_)
      clear hst; intro a hst
      refine l_op rfl (r_store hst rfl rfl rfl Tsz58 rfl (.tail (.tail (.tail (.head (.there (.there (.there (.here (.here (.here (.here (.here (.here (.nil (Nat.zero_le _))))))))))))))) ?_)
      clear hst; intro w hst
      refine wpList_nil ?_
      refine then_n ?_
      refine wp_seq ?_
      refine x_drawh (by kernel_rfl) hst (.cons _ (.cons_cons _ (.cons _ (.cons_cons _ (.cons _ (.cons _ (.slnil))))))) ?_
      clear hst; intro w hst
      refine h_take (i := 0) hst (.cons _ (.cons_cons _ (.cons _ (.cons_cons _ (.cons _ (.cons _ (.slnil))))))) rfl rfl rfl rfl (by kernel_rfl) (by kernel_rfl) (by kernel_rfl) (fun _ _ _ h => h) (fun _ _ _ _ hst => q_loada hst rfl Ta48 (.head _) (.cons rfl (.cons rfl (.cons rfl (.cons rfl (.cons rfl (.cons rfl (.nil))))))) rfl) ?_
      clear hst; intro a hst
      refine h_take (i := 1) hst (.cons _ (.cons_cons _ (.cons _ (.cons_cons _ (.cons _ (.cons _ (.slnil))))))) rfl rfl rfl rfl (by kernel_rfl) (by kernel_rfl) (by kernel_rfl) (fun _ _ _ h => h) (fun _ _ _ _ hst => q_loada hst rfl Ta60 (.tail _ (.head _)) (.cons rfl (.cons rfl (.cons rfl (.cons rfl (.cons rfl (.cons rfl (.cons rfl (.cons rfl (.cons rfl (.cons rfl (.cons rfl (.nil)))))))))))) rfl) ?_
      clear hst; intro a hst
      refine h_one (i := 2) (by kernel_rfl) rfl rfl (r_store hst rfl rfl rfl Tsz48 rfl (.tail (.tail (.tail (.tail (.tail (.head (.here (.here (.here (.here (.here (.here (.nil (Nat.zero_le _)))))))))))))) ?_)
      clear hst; intro w hst
      refine ⟨hst.held (.cons _ (.cons_cons _ (.cons _ (.cons_cons _ (.cons _ (.cons _ (.slnil))))))), ?_⟩
      refine h_one (i := 3) (by kernel_rfl) rfl rfl (r_store hst rfl rfl rfl Tsz60 rfl (.tail (.tail (.tail (.tail (.head (.here (.here (.here (.here (.here (.here (.here (.here (.here (.here (.here (.nil (Nat.zero_le _)))))))))))))))))) ?_)
      clear hst; intro w hst
      refine ⟨hst.held (.cons _ (.cons_cons _ (.cons _ (.cons_cons _ (.cons _ (.cons _ (.slnil))))))), ?_⟩
      refine h_done (by kernel_rfl) ?_
      refine then_n ?_
      refine wp_ret ?_
      have hgl := Sl.nil kE none 0 w U
      refine x_ret (rs := [.cell 2 48, .cell 3 60]) hst rfl (.agg rfl Ta48 (.tail _ (.tail _ (.tail _ (.tail _ (.tail _ (.head _)))))) rfl (.agg rfl Ta60 (.tail _ (.tail _ (.tail _ (.tail _ (.head _))))) rfl (.nil))) ?_
      exact ⟨_, _, _, _, _, _, _, _, _, _, _, _, _, _, _, _, _, _, _, _, _, ⟨_, _, _, _⟩, rfl, by grind, by grind, by grind, ⟨_, _, _, [_, _, _, _, _, _], _, _, rfl, rfl, hst.fact.2.1, hgl, hst.fact.1, by simp only []; omega⟩⟩
    try simp at hc2
    try (have hz := hb1; simp [hc2] at hz)
    refine l_off hst rfl rfl rfl (by decide) rfl rfl ?_
    clear hst; intro a hst
    refine l_off hst rfl rfl rfl (by decide) rfl rfl ?_
    clear hst; intro a hst
    refine l_off hst rfl rfl rfl (by decide) rfl rfl ?_
    clear hst; intro a hst
    refine l_op rfl (r_pick hst rfl rfl rfl ?_)
    clear hst; intro a hst
    refine wpList_nil ?_
    refine then_n ?_
    refine x_cond_f hst rfl ?_
    refine wp_exit ?_
    refine then_x ?_
    refine then_x ?_
    refine inb_hit ?_
    refine then_n ?_
    refine wp_seq ?_
    refine wp_seq ?_
    have hsl := Sl.of_flat hst.fact.1.1 hst.fact.1.2 hl hcc
    have hst := (hst.row_drop (RW' := []) (List.nil_sublist _)).newFact (Mono.and (Sl.mono kE _ _) (Toks.mono A n)) ⟨hsl, hst.fact.2⟩
    refine wp_region_lit ?_
    refine l_op rfl (r_loada hst rfl Ta48 (.head _) (.cons rfl (.cons rfl (.cons rfl (.cons rfl (.cons rfl (.cons rfl (.nil))))))) rfl rfl ?_)
    clear hst; intro a hst
    refine l_op rfl (r_call (xs := [(Operand.tmp 49), (Operand.const (Value.int IntKind.i64 6)), (Operand.const (Value.string { data := #[124] }))]) hst rfl Ten14 (is_c _ _ _ _ _ _ _ (by omega) hn (by first | exact hst.fact | exact hst.fact.2 | exact hst.fact.2.2 | exact hst.fact.2.2.2 | exact hst.fact.2.2.2.2) (by decide)) rfl ?_)
    clear hst; rintro a _ w U ⟨b1, rfl, hb1⟩ hst
    refine wpList_nil ?_
    refine then_n ?_
    refine x_cond hst rfl (fun hc5 => ?_) (fun hc5 => ?_)
    · try simp at hc5
      try (have hz := hb1; simp [hc5] at hz)
      refine wp_seq ?_
      refine wp_region_lit ?_
      refine l_op rfl (r_fieldAddr hst rfl Tf48_1 rfl ?_)
      clear hst; intro a hst
      refine l_op rfl (r_loads hst rfl Ts3 (.head _) rfl rfl ?_)
      clear hst; intro a hst
      refine l_op rfl (r_bin hst rfl rfl rfl rfl rfl ?_)
      clear hst; intro a hst
      rw [wrap_in _ (by omega) (by omega)] at hst
      refine l_op rfl (r_fieldAddr hst rfl Tf48_1 rfl ?_)
      clear hst; intro a hst
      refine l_op rfl (r_store hst rfl rfl rfl Tsz3 rfl (.head (.there (.here (.nil (Nat.zero_le _))))) ?_)
      clear hst; intro w hst
      refine wpList_nil ?_
      refine then_n ?_
      refine wp_seq ?_
      refine wp_region_lit ?_
      refine l_op rfl (r_loada hst rfl Ta48 (.head _) (.cons rfl (.cons rfl (.cons rfl (.cons rfl (.cons rfl (.cons rfl (.nil))))))) rfl rfl ?_)
      clear hst; intro a hst
      refine l_op rfl (r_call (xs := [(Operand.tmp 56)]) hst rfl Ten43 ((exprs_all hn _).1 _ _ _ _ _ _ _ (by omega) (by omega) (by omega) (by omega) (Nat.le_refl _) (by first | exact hst.fact | exact hst.fact.2 | exact hst.fact.2.2 | exact hst.fact.2.2.2 | exact hst.fact.2.2.2.2)) rfl ?_)
      clear hst; rintro a _ w U ⟨i9, b9, x9, y9, k9, m9, p9, q9, s9, B9, l9, c9, t9, rfl, h9a, h9b, h9c, h9⟩ hst
      have hst := hst.addFact (ERep.mono _ _) h9
      refine l_op rfl (r_move hst rfl rfl ?_)
      clear hst; intro a hst
      refine l_op rfl (r_extract hst rfl rfl rfl ?_)
      clear hst; intro a hst
      refine l_op rfl (r_extract hst rfl rfl rfl ?_)
      clear hst; intro a hst
      refine l_op rfl (r_alloc hst Tz48 rfl ?_)
      clear hst; intro a w g6 hst
      refine l_op rfl (r_alloc hst Tz58 rfl ?_)
      clear hst; intro a w g7 hst
      refine l_op rfl (r_store hst rfl rfl rfl Tsz48 rfl (.tail (.head (.here (.here (.here (.here (.here (.here (.nil (Nat.zero_le _)))))))))) ?_)
      clear hst; intro w hst
      refine l_op rfl (r_store hst rfl rfl rfl Tsz58 rfl (.head (.here (.here (.here (.here (.here (.here (.nil (Nat.zero_le _))))))))) ?_)
      clear hst; intro w hst
      refine wpList_nil ?_
      refine then_n ?_
      refine wp_seq ?_
      refine wp_region_lit ?_
      refine l_op rfl (r_loada hst rfl Ta48 (.tail _ (.head _)) (.cons rfl (.cons rfl (.cons rfl (.cons rfl (.cons rfl (.cons rfl (.nil))))))) rfl rfl ?_)
      clear hst; intro a hst
      refine l_op rfl (r_store hst rfl rfl rfl Tsz48 rfl (.tail (.tail (.head (.here (.here (.here (.here (.here (.here (.nil (Nat.zero_le _))))))))))) ?_)
      clear hst; intro w hst
      refine wpList_nil ?_
      refine then_n ?_
      refine wp_region_lit ?_
      refine l_op rfl (r_loada hst rfl Ta58 (.head _) (.cons rfl (.cons rfl (.cons rfl (.cons rfl (.cons rfl (.cons rfl (.nil))))))) rfl rfl ?_)
      clear hst; intro a hst
      refine l_op rfl (r_slice1 hst Tu56 Tsz58 Tz58 rfl (by decide) (by decide) rfl rfl rfl rfl ?_)
      clear hst; intro a w g8 hst
      refine l_op rfl (r_fieldAddr hst rfl Tf60_2 rfl ?_)
      clear hst; intro a hst
      refine l_op rfl (r_store hst rfl rfl rfl Tsz56 rfl (.tail (.tail (.tail (.tail (.head (.there (.there (.here (.nil (Nat.zero_le _)))))))))) ?_)
      clear hst; intro w hst
      refine wpList_nil ?_
      refine then_n ?_
      refine wp_seq ?_
      refine wp_region_lit ?_
      refine l_op rfl (r_loada hst rfl Ta48 (.tail _ (.tail _ (.tail _ (.head _)))) (.cons rfl (.cons rfl (.cons rfl (.cons rfl (.cons rfl (.cons rfl (.nil))))))) rfl rfl ?_)
      clear hst; intro a hst
      refine l_op rfl (r_call (xs := [(Operand.tmp 65), (Operand.const (Value.int IntKind.i64 6)), (Operand.const (Value.string { data := #[61] }))]) hst rfl Ten13 (take_c _ _ _ _ _ _ _ (by omega) hn (by first | exact hst.fact | exact hst.fact.2 | exact hst.fact.2.2 | exact hst.fact.2.2.2 | exact hst.fact.2.2.2.2) (by omega) (by decide)) rfl ?_)
      clear hst; rintro a _ w U ⟨i1, b1, x1, y1, rfl, ht1⟩ hst
      refine l_op rfl (r_call (xs := [(Operand.tmp 66)]) hst rfl Ten43 ((exprs_all hn _).1 _ _ _ _ _ _ _ (by omega) (by omega) (by omega) (by omega) (Nat.le_refl _) (by first | exact hst.fact | exact hst.fact.2 | exact hst.fact.2.2 | exact hst.fact.2.2.2 | exact hst.fact.2.2.2.2)) rfl ?_)
      clear hst; rintro a _ w U ⟨i11, b11, x11, y11, k11, m11, p11, q11, s11, B11, l11, c11, t11, rfl, h11a, h11b, h11c, h11⟩ hst
      have hst := hst.addFact (ERep.mono _ _) h11
      refine l_op rfl (r_move hst rfl rfl ?_)
      clear hst; intro a hst
      refine l_op rfl (r_extract hst rfl rfl rfl ?_)
      clear hst; intro a hst
      refine l_op rfl (r_extract hst rfl rfl rfl ?_)
      clear hst; intro a hst
      refine l_op rfl (r_alloc hst Tz48 rfl ?_)
      clear hst; intro a w g9 hst
      refine l_op rfl (r_alloc hst Tz58 rfl ?_)
      clear hst; intro a w g10 hst
      refine l_op rfl (r_store hst rfl rfl rfl Tsz48 rfl (.tail (.head (.here (.here (.here (.here (.here (.here (.nil (Nat.zero_le _)))))))))) ?_)
      clear hst; intro w hst
      refine l_op rfl (r_store hst rfl rfl rfl Tsz58 rfl (.head (.here (.here (.here (.here (.here (.here (.nil (Nat.zero_le _))))))))) ?_)
      clear hst; intro w hst
      refine wpList_nil ?_
      refine then_n ?_
      refine wp_seq ?_
      refine wp_region_lit ?_
      refine l_op rfl (r_loada hst rfl Ta58 (.head _) (.cons rfl (.cons rfl (.cons rfl (.cons rfl (.cons rfl (.cons rfl (.nil))))))) rfl rfl ?_)
      clear hst; intro a hst
      refine l_op rfl (r_fieldAddr hst rfl Tf60_3 rfl ?_)
      clear hst; intro a hst
      refine l_op rfl (r_store hst rfl rfl rfl Tsz58 rfl (.tail (.tail (.tail (.tail (.tail (.tail (.head (.there (.there (.there (.here (.here (.here (.here (.here (.here (.nil (Nat.zero_le _)))))))))))))))))) ?_)
      clear hst; intro w hst
      refine wpList_nil ?_
      refine then_n ?_
      refine wp_seq ?_
      refine x_drawh (by kernel_rfl) hst (.cons _ (.cons_cons _ (.cons _ (.cons _ (.cons _ (.cons _ (.cons_cons _ (.cons _ (.cons _ (.slnil)))))))))) ?_
      clear hst; intro w hst
      refine h_take (i := 0) hst (.cons _ (.cons_cons _ (.cons _ (.cons _ (.cons _ (.cons _ (.cons_cons _ (.cons _ (.cons _ (.slnil)))))))))) rfl rfl rfl rfl (by kernel_rfl) (by kernel_rfl) (by kernel_rfl) (fun _ _ _ h => h) (fun _ _ _ _ hst => q_loada hst rfl Ta48 (.head _) (.cons rfl (.cons rfl (.cons rfl (.cons rfl (.cons rfl (.cons rfl (.nil))))))) rfl) ?_
      clear hst; intro a hst
      refine h_take (i := 1) hst (.cons _ (.cons_cons _ (.cons _ (.cons _ (.cons _ (.cons _ (.cons_cons _ (.cons _ (.cons _ (.slnil)))))))))) rfl rfl rfl rfl (by kernel_rfl) (by kernel_rfl) (by kernel_rfl) (fun _ _ _ h => h) (fun _ _ _ _ hst => q_loada hst rfl Ta60 (.tail _ (.head _)) (.cons rfl (.cons rfl (.cons rfl (.cons rfl (.cons rfl (.cons rfl (.cons rfl (.cons rfl (.cons rfl (.cons rfl (.cons rfl (.nil)))))))))))) rfl) ?_
      clear hst; intro a hst
      refine h_one (i := 2) (by kernel_rfl) rfl rfl (r_store hst rfl rfl rfl Tsz48 rfl (.tail (.tail (.tail (.tail (.tail (.tail (.tail (.tail (.head (.here (.here (.here (.here (.here (.here (.nil (Nat.zero_le _))))))))))))))))) ?_)
      clear hst; intro w hst
      refine ⟨hst.held (.cons _ (.cons_cons _ (.cons _ (.cons _ (.cons _ (.cons _ (.cons_cons _ (.cons _ (.cons _ (.slnil)))))))))), ?_⟩
      refine h_one (i := 3) (by kernel_rfl) rfl rfl (r_store hst rfl rfl rfl Tsz60 rfl (.tail (.tail (.tail (.tail (.tail (.tail (.tail (.head (.here (.here (.here (.here (.here (.here (.here (.here (.here (.here (.here (.nil (Nat.zero_le _))))))))))))))))))))) ?_)
      clear hst; intro w hst
      refine ⟨hst.held (.cons _ (.cons_cons _ (.cons _ (.cons _ (.cons _ (.cons _ (.cons_cons _ (.cons _ (.cons _ (.slnil)))))))))), ?_⟩
      refine h_done (by kernel_rfl) ?_
      refine then_n ?_
      refine wp_ret ?_
      obtain ⟨U, hext, hcont, hst⟩ := hst.settle_ (.tail (.tail (.head)))
      have hgl := Sl.of_flat (hcont 1 1) (Flat.one (K := kE) hst.fact.2.1) rfl (by decide)
      refine x_ret (rs := [.cell 2 48, .cell 3 60]) hst rfl (.agg rfl Ta48 (.tail _ (.tail _ (.tail _ (.tail _ (.tail _ (.tail _ (.tail _ (.head _)))))))) rfl (.agg rfl Ta60 (.tail _ (.tail _ (.tail _ (.tail _ (.tail _ (.tail _ (.head _))))))) rfl (.nil))) ?_
      exact ⟨_, _, _, _, _, _, _, _, _, _, _, _, _, _, _, _, _, _, _, _, _, ⟨_, _, _, _⟩, rfl, by grind, by grind, by grind, ⟨_, _, _, [_, _, _, _, _, _], _, _, rfl, rfl, hst.fact.2.2.1, hgl, hst.fact.1, by simp only []; omega⟩⟩
    try simp at hc5
    try (have hz := hb1; simp [hc5] at hz)
    refine wp_skip ?_
    refine then_n ?_
    refine wp_seq ?_
    refine wp_region_lit ?_
    refine l_op rfl (r_loada hst rfl Ta48 (.head _) (.cons rfl (.cons rfl (.cons rfl (.cons rfl (.cons rfl (.cons rfl (.nil))))))) rfl rfl ?_)
    clear hst; intro a hst
    refine l_op rfl (r_call (xs := [(Operand.tmp 65), (Operand.const (Value.int IntKind.i64 6)), (Operand.const (Value.string { data := #[61] }))]) hst rfl Ten13 (take_c _ _ _ _ _ _ _ (by omega) hn (by first | exact hst.fact | exact hst.fact.2 | exact hst.fact.2.2 | exact hst.fact.2.2.2 | exact hst.fact.2.2.2.2) (by omega) (by decide)) rfl ?_)
    clear hst; rintro a _ w U ⟨i1, b1, x1, y1, rfl, ht1⟩ hst
    refine l_op rfl (r_call (xs := [(Operand.tmp 66)]) hst rfl Ten43 ((exprs_all hn _).1 _ _ _ _ _ _ _ (by omega) (by omega) (by omega) (by omega) (Nat.le_refl _) (by first | exact hst.fact | exact hst.fact.2 | exact hst.fact.2.2 | exact hst.fact.2.2.2 | exact hst.fact.2.2.2.2)) rfl ?_)
    clear hst; rintro a _ w U ⟨i11, b11, x11, y11, k11, m11, p11, q11, s11, B11, l11, c11, t11, rfl, h11a, h11b, h11c, h11⟩ hst
    have hst := hst.addFact (ERep.mono _ _) h11
    refine l_op rfl (r_move hst rfl rfl ?_)
    clear hst; intro a hst
    refine l_op rfl (r_extract hst rfl rfl rfl ?_)
    clear hst; intro a hst
    refine l_op rfl (r_extract hst rfl rfl rfl ?_)
    clear hst; intro a hst
    refine l_op rfl (r_alloc hst Tz48 rfl ?_)
    clear hst; intro a w g6 hst
    refine l_op rfl (r_alloc hst Tz58 rfl ?_)
    clear hst; intro a w g7 hst
    refine l_op rfl (r_store hst rfl rfl rfl Tsz48 rfl (.tail (.head (.here (.here (.here (.here (.here (.here (.nil (Nat.zero_le _)))))))))) ?_)
    clear hst; intro w hst
    refine l_op rfl (r_store hst rfl rfl rfl Tsz58 rfl (.head (.here (.here (.here (.here (.here (.here (.nil (Nat.zero_le _))))))))) ?_)
    clear hst; intro w hst
    refine wpList_nil ?_
    refine then_n ?_
    refine wp_seq ?_
    refine wp_region_lit ?_
    refine l_op rfl (r_loada hst rfl Ta58 (.head _) (.cons rfl (.cons rfl (.cons rfl (.cons rfl (.cons rfl (.cons rfl (.nil))))))) rfl rfl ?_)
    clear hst; intro a hst
    refine l_op rfl (r_fieldAddr hst rfl Tf60_3 rfl ?_)
    clear hst; intro a hst
    refine l_op rfl (r_store hst rfl rfl rfl Tsz58 rfl (.tail (.tail (.tail (.head (.there (.there (.there (.here (.here (.here (.here (.here (.here (.nil (Nat.zero_le _))))))))))))))) ?_)
    clear hst; intro w hst
    refine wpList_nil ?_
    refine then_n ?_
    refine wp_seq ?_
    refine x_drawh (by kernel_rfl) hst (.cons _ (.cons_cons _ (.cons _ (.cons_cons _ (.cons _ (.cons _ (.slnil))))))) ?_
    clear hst; intro w hst
    refine h_take (i := 0) hst (.cons _ (.cons_cons _ (.cons _ (.cons_cons _ (.cons _ (.cons _ (.slnil))))))) rfl rfl rfl rfl (by kernel_rfl) (by kernel_rfl) (by kernel_rfl) (fun _ _ _ h => h) (fun _ _ _ _ hst => q_loada hst rfl Ta48 (.head _) (.cons rfl (.cons rfl (.cons rfl (.cons rfl (.cons rfl (.cons rfl (.nil))))))) rfl) ?_
    clear hst; intro a hst
    refine h_take (i := 1) hst (.cons _ (.cons_cons _ (.cons _ (.cons_cons _ (.cons _ (.cons _ (.slnil))))))) rfl rfl rfl rfl (by kernel_rfl) (by kernel_rfl) (by kernel_rfl) (fun _ _ _ h => h) (fun _ _ _ _ hst => q_loada hst rfl Ta60 (.tail _ (.head _)) (.cons rfl (.cons rfl (.cons rfl (.cons rfl (.cons rfl (.cons rfl (.cons rfl (.cons rfl (.cons rfl (.cons rfl (.cons rfl (.nil)))))))))))) rfl) ?_
    clear hst; intro a hst
    refine h_one (i := 2) (by kernel_rfl) rfl rfl (r_store hst rfl rfl rfl Tsz48 rfl (.tail (.tail (.tail (.tail (.tail (.head (.here (.here (.here (.here (.here (.here (.nil (Nat.zero_le _)))))))))))))) ?_)
    clear hst; intro w hst
    refine ⟨hst.held (.cons _ (.cons_cons _ (.cons _ (.cons_cons _ (.cons _ (.cons _ (.slnil))))))), ?_⟩
    refine h_one (i := 3) (by kernel_rfl) rfl rfl (r_store hst rfl rfl rfl Tsz60 rfl (.tail (.tail (.tail (.tail (.head (.here (.here (.here (.here (.here (.here (.here (.here (.here (.here (.here (.nil (Nat.zero_le _)))))))))))))))))) ?_)
    clear hst; intro w hst
    refine ⟨hst.held (.cons _ (.cons_cons _ (.cons _ (.cons_cons _ (.cons _ (.cons _ (.slnil))))))), ?_⟩
    refine h_done (by kernel_rfl) ?_
    refine then_n ?_
    refine wp_ret ?_
    have hgl := Sl.nil kE none 0 w U
    refine x_ret (rs := [.cell 2 48, .cell 3 60]) hst rfl (.agg rfl Ta48 (.tail _ (.tail _ (.tail _ (.tail _ (.tail _ (.head _)))))) rfl (.agg rfl Ta60 (.tail _ (.tail _ (.tail _ (.tail _ (.head _))))) rfl (.nil))) ?_
    exact ⟨_, _, _, _, _, _, _, _, _, _, _, _, _, _, _, _, _, _, _, _, _, ⟨_, _, _, _⟩, rfl, by grind, by grind, by grind, ⟨_, _, _, [_, _, _, _, _, _], _, _, rfl, rfl, hst.fact.2.1, hgl, hst.fact.1, by simp only []; omega⟩⟩
  try simp at hc1
  try (have hz := hb1; simp [hc1] at hz)
  refine l_off hst rfl rfl rfl (by decide) rfl rfl ?_
  clear hst; intro a hst
  refine l_off hst rfl rfl rfl (by decide) rfl rfl ?_
  clear hst; intro a hst
  refine l_off hst rfl rfl rfl (by decide) rfl rfl ?_
  clear hst; intro a hst
  refine l_op rfl (r_pick hst rfl rfl rfl ?_)
  clear hst; intro a hst
  refine l_op rfl (r_move hst rfl rfl ?_)
  clear hst; intro a hst
  refine l_off hst rfl rfl rfl (by decide) rfl rfl ?_
  clear hst; intro a hst
  refine l_off hst rfl rfl rfl (by decide) rfl rfl ?_
  clear hst; intro a hst
  refine l_off hst rfl rfl rfl (by decide) rfl rfl ?_
  clear hst; intro a hst
  refine l_op rfl (r_pick hst rfl rfl rfl ?_)
  clear hst; intro a hst
  refine wpList_nil ?_
  refine then_n ?_
  refine x_cond_f hst rfl ?_
  refine wp_exit ?_
  refine then_x ?_
  refine then_x ?_
  refine inb_hit ?_
  refine then_n ?_
  refine wp_seq ?_
  refine wp_seq ?_
  have hsl := Sl.of_flat hst.fact.1.1 hst.fact.1.2 hl hcc
  have hst := (hst.row_drop (RW' := []) (List.nil_sublist _)).newFact (Mono.and (Sl.mono kE _ _) (Toks.mono A n)) ⟨hsl, hst.fact.2⟩
  refine wp_region_lit ?_
  refine l_op rfl (r_loada hst rfl Ta48 (.head _) (.cons rfl (.cons rfl (.cons rfl (.cons rfl (.cons rfl (.cons rfl (.nil))))))) rfl rfl ?_)
  clear hst; intro a hst
  refine l_op rfl (r_call (xs := [(Operand.tmp 49), (Operand.const (Value.int IntKind.i64 6)), (Operand.const (Value.string { data := #[124] }))]) hst rfl Ten14 (is_c _ _ _ _ _ _ _ (by omega) hn (by first | exact hst.fact | exact hst.fact.2 | exact hst.fact.2.2 | exact hst.fact.2.2.2 | exact hst.fact.2.2.2.2) (by decide)) rfl ?_)
  clear hst; rintro a _ w U ⟨b1, rfl, hb1⟩ hst
  refine wpList_nil ?_
  refine then_n ?_
  refine x_cond hst rfl (fun hc6 => ?_) (fun hc6 => ?_)
  · try simp at hc6
    try (have hz := hb1; simp [hc6] at hz)
    refine wp_seq ?_
    refine wp_region_lit ?_
    refine l_op rfl (r_fieldAddr hst rfl Tf48_1 rfl ?_)
    clear hst; intro a hst
    refine l_op rfl (r_loads hst rfl Ts3 (.head _) rfl rfl ?_)
    clear hst; intro a hst
    refine l_op rfl (r_bin hst rfl rfl rfl rfl rfl ?_)
    clear hst; intro a hst
    rw [wrap_in _ (by omega) (by omega)] at hst
    refine l_op rfl (r_fieldAddr hst rfl Tf48_1 rfl ?_)
    clear hst; intro a hst
    refine l_op rfl (r_store hst rfl rfl rfl Tsz3 rfl (.head (.there (.here (.nil (Nat.zero_le _))))) ?_)
    clear hst; intro w hst
    refine wpList_nil ?_
    refine then_n ?_
    refine wp_seq ?_
    refine wp_region_lit ?_
    refine l_op rfl (r_loada hst rfl Ta48 (.head _) (.cons rfl (.cons rfl (.cons rfl (.cons rfl (.cons rfl (.cons rfl (.nil))))))) rfl rfl ?_)
    clear hst; intro a hst
    refine l_op rfl (r_call (xs := [(Operand.tmp 56)]) hst rfl Ten43 ((exprs_all hn _).1 _ _ _ _ _ _ _ (by omega) (by omega) (by omega) (by omega) (Nat.le_refl _) (by first | exact hst.fact | exact hst.fact.2 | exact hst.fact.2.2 | exact hst.fact.2.2.2 | exact hst.fact.2.2.2.2)) rfl ?_)
    clear hst; rintro a _ w U ⟨i9, b9, x9, y9, k9, m9, p9, q9, s9, B9, l9, c9, t9, rfl, h9a, h9b, h9c, h9⟩ hst
    have hst := hst.addFact (ERep.mono _ _) h9
    refine l_op rfl (r_move hst rfl rfl ?_)
    clear hst; intro a hst
    refine l_op rfl (r_extract hst rfl rfl rfl ?_)
    clear hst; intro a hst
    refine l_op rfl (r_extract hst rfl rfl rfl ?_)
    clear hst; intro a hst
    refine l_op rfl (r_alloc hst Tz48 rfl ?_)
    clear hst; intro a w g6 hst
    refine l_op rfl (r_alloc hst Tz58 rfl ?_)
    clear hst; intro a w g7 hst
    refine l_op rfl (r_store hst rfl rfl rfl Tsz48 rfl (.tail (.head (.here (.here (.here (.here (.here (.here (.nil (Nat.zero_le _)))))))))) ?_)
    clear hst; intro w hst
    refine l_op rfl (r_store hst rfl rfl rfl Tsz58 rfl (.head (.here (.here (.here (.here (.here (.here (.nil (Nat.zero_le _))))))))) ?_)
    clear hst; intro w hst
    refine wpList_nil ?_
    refine then_n ?_
    refine wp_seq ?_
    refine wp_region_lit ?_
    refine l_op rfl (r_loada hst rfl Ta48 (.tail _ (.head _)) (.cons rfl (.cons rfl (.cons rfl (.cons rfl (.cons rfl (.cons rfl (.nil))))))) rfl rfl ?_)
    clear hst; intro a hst
    refine l_op rfl (r_store hst rfl rfl rfl Tsz48 rfl (.tail (.tail (.head (.here (.here (.here (.here (.here (.here (.nil (Nat.zero_le _))))))))))) ?_)
    clear hst; intro w hst
    refine wpList_nil ?_
    refine then_n ?_
    refine wp_region_lit ?_
    refine l_op rfl (r_loada hst rfl Ta58 (.head _) (.cons rfl (.cons rfl (.cons rfl (.cons rfl (.cons rfl (.cons rfl (.nil))))))) rfl rfl ?_)
    clear hst; intro a hst
    refine l_op rfl (r_slice1 hst Tu56 Tsz58 Tz58 rfl (by decide) (by decide) rfl rfl rfl rfl ?_)
    clear hst; intro a w g8 hst
    refine l_op rfl (r_fieldAddr hst rfl Tf60_2 rfl ?_)
    clear hst; intro a hst
    refine l_op rfl (r_store hst rfl rfl rfl Tsz56 rfl (.tail (.tail (.tail (.tail (.head (.there (.there (.here (.nil (Nat.zero_le _)))))))))) ?_)
    clear hst; intro w hst
    refine wpList_nil ?_
    refine then_n ?_
    refine wp_seq ?_
    refine wp_region_lit ?_
    refine l_op rfl (r_loada hst rfl Ta48 (.tail _ (.tail _ (.tail _ (.head _)))) (.cons rfl (.cons rfl (.cons rfl (.cons rfl (.cons rfl (.cons rfl (.nil))))))) rfl rfl ?_)
    clear hst; intro a hst
    refine l_op rfl (r_call (xs := [(Operand.tmp 65), (Operand.const (Value.int IntKind.i64 6)), (Operand.const (Value.string { data := #[61] }))]) hst rfl Ten13 (take_c _ _ _ _ _ _ _ (by omega) hn (by first | exact hst.fact | exact hst.fact.2 | exact hst.fact.2.2 | exact hst.fact.2.2.2 | exact hst.fact.2.2.2.2) (by omega) (by decide)) rfl ?_)
    clear hst; rintro a _ w U ⟨i1, b1, x1, y1, rfl, ht1⟩ hst
    refine l_op rfl (r_call (xs := [(Operand.tmp 66)]) hst rfl Ten43 ((exprs_all hn _).1 _ _ _ _ _ _ _ (by omega) (by omega) (by omega) (by omega) (Nat.le_refl _) (by first | exact hst.fact | exact hst.fact.2 | exact hst.fact.2.2 | exact hst.fact.2.2.2 | exact hst.fact.2.2.2.2)) rfl ?_)
    clear hst; rintro a _ w U ⟨i11, b11, x11, y11, k11, m11, p11, q11, s11, B11, l11, c11, t11, rfl, h11a, h11b, h11c, h11⟩ hst
    have hst := hst.addFact (ERep.mono _ _) h11
    refine l_op rfl (r_move hst rfl rfl ?_)
    clear hst; intro a hst
    refine l_op rfl (r_extract hst rfl rfl rfl ?_)
    clear hst; intro a hst
    refine l_op rfl (r_extract hst rfl rfl rfl ?_)
    clear hst; intro a hst
    refine l_op rfl (r_alloc hst Tz48 rfl ?_)
    clear hst; intro a w g9 hst
    refine l_op rfl (r_alloc hst Tz58 rfl ?_)
    clear hst; intro a w g10 hst
    refine l_op rfl (r_store hst rfl rfl rfl Tsz48 rfl (.tail (.head (.here (.here (.here (.here (.here (.here (.nil (Nat.zero_le _)))))))))) ?_)
    clear hst; intro w hst
    refine l_op rfl (r_store hst rfl rfl rfl Tsz58 rfl (.head (.here (.here (.here (.here (.here (.here (.nil (Nat.zero_le _))))))))) ?_)
    clear hst; intro w hst
    refine wpList_nil ?_
    refine then_n ?_
    refine wp_seq ?_
    refine wp_region_lit ?_
    refine l_op rfl (r_loada hst rfl Ta58 (.head _) (.cons rfl (.cons rfl (.cons rfl (.cons rfl (.cons rfl (.cons rfl (.nil))))))) rfl rfl ?_)
    clear hst; intro a hst
    refine l_op rfl (r_fieldAddr hst rfl Tf60_3 rfl ?_)
    clear hst; intro a hst
    refine l_op rfl (r_store hst rfl rfl rfl Tsz58 rfl (.tail (.tail (.tail (.tail (.tail (.tail (.head (.there (.there (.there (.here (.here (.here (.here (.here (.here (.nil (Nat.zero_le _)))))))))))))))))) ?_)
    clear hst; intro w hst
    refine wpList_nil ?_
    refine then_n ?_
    refine wp_seq ?_
    refine x_drawh (by kernel_rfl) hst (.cons _ (.cons_cons _ (.cons _ (.cons _ (.cons _ (.cons _ (.cons_cons _ (.cons _ (.cons _ (.slnil)))))))))) ?_
    clear hst; intro w hst
    refine h_take (i := 0) hst (.cons _ (.cons_cons _ (.cons _ (.cons _ (.cons _ (.cons _ (.cons_cons _ (.cons _ (.cons _ (.slnil)))))))))) rfl rfl rfl rfl (by kernel_rfl) (by kernel_rfl) (by kernel_rfl) (fun _ _ _ h => h) (fun _ _ _ _ hst => q_loada hst rfl Ta48 (.head _) (.cons rfl (.cons rfl (.cons rfl (.cons rfl (.cons rfl (.cons rfl (.nil))))))) rfl) ?_
    clear hst; intro a hst
    refine h_take (i := 1) hst (.cons _ (.cons_cons _ (.cons _ (.cons _ (.cons _ (.cons _ (.cons_cons _ (.cons _ (.cons _ (.slnil)))))))))) rfl rfl rfl rfl (by kernel_rfl) (by kernel_rfl) (by kernel_rfl) (fun _ _ _ h => h) (fun _ _ _ _ hst => q_loada hst rfl Ta60 (.tail _ (.head _)) (.cons rfl (.cons rfl (.cons rfl (.cons rfl (.cons rfl (.cons rfl (.cons rfl (.cons rfl (.cons rfl (.cons rfl (.cons rfl (.nil)))))))))))) rfl) ?_
    clear hst; intro a hst
    refine h_one (i := 2) (by kernel_rfl) rfl rfl (r_store hst rfl rfl rfl Tsz48 rfl (.tail (.tail (.tail (.tail (.tail (.tail (.tail (.tail (.head (.here (.here (.here (.here (.here (.here (.nil (Nat.zero_le _))))))))))))))))) ?_)
    clear hst; intro w hst
    refine ⟨hst.held (.cons _ (.cons_cons _ (.cons _ (.cons _ (.cons _ (.cons _ (.cons_cons _ (.cons _ (.cons _ (.slnil)))))))))), ?_⟩
    refine h_one (i := 3) (by kernel_rfl) rfl rfl (r_store hst rfl rfl rfl Tsz60 rfl (.tail (.tail (.tail (.tail (.tail (.tail (.tail (.head (.here (.here (.here (.here (.here (.here (.here (.here (.here (.here (.here (.nil (Nat.zero_le _))))))))))))))))))))) ?_)
    clear hst; intro w hst
    refine ⟨hst.held (.cons _ (.cons_cons _ (.cons _ (.cons _ (.cons _ (.cons _ (.cons_cons _ (.cons _ (.cons _ (.slnil)))))))))), ?_⟩
    refine h_done (by kernel_rfl) ?_
    refine then_n ?_
    refine wp_ret ?_
    obtain ⟨U, hext, hcont, hst⟩ := hst.settle_ (.tail (.tail (.head)))
    have hgl := Sl.of_flat (hcont 1 1) (Flat.one (K := kE) hst.fact.2.1) rfl (by decide)
    refine x_ret (rs := [.cell 2 48, .cell 3 60]) hst rfl (.agg rfl Ta48 (.tail _ (.tail _ (.tail _ (.tail _ (.tail _ (.tail _ (.tail _ (.head _)))))))) rfl (.agg rfl Ta60 (.tail _ (.tail _ (.tail _ (.tail _ (.tail _ (.tail _ (.head _))))))) rfl (.nil))) ?_
    exact ⟨_, _, _, _, _, _, _, _, _, _, _, _, _, _, _, _, _, _, _, _, _, ⟨_, _, _, _⟩, rfl, by grind, by grind, by grind, ⟨_, _, _, [_, _, _, _, _, _], _, _, rfl, rfl, hst.fact.2.2.1, hgl, hst.fact.1, by simp only []; omega⟩⟩
  try simp at hc6
  try (have hz := hb1; simp [hc6] at hz)
  refine wp_skip ?_
  refine then_n ?_
  refine wp_seq ?_
  refine wp_region_lit ?_
  refine l_op rfl (r_loada hst rfl Ta48 (.head _) (.cons rfl (.cons rfl (.cons rfl (.cons rfl (.cons rfl (.cons rfl (.nil))))))) rfl rfl ?_)
  clear hst; intro a hst
  refine l_op rfl (r_call (xs := [(Operand.tmp 65), (Operand.const (Value.int IntKind.i64 6)), (Operand.const (Value.string { data := #[61] }))]) hst rfl Ten13 (take_c _ _ _ _ _ _ _ (by omega) hn (by first | exact hst.fact | exact hst.fact.2 | exact hst.fact.2.2 | exact hst.fact.2.2.2 | exact hst.fact.2.2.2.2) (by omega) (by decide)) rfl ?_)
  clear hst; rintro a _ w U ⟨i1, b1, x1, y1, rfl, ht1⟩ hst
  refine l_op rfl (r_call (xs := [(Operand.tmp 66)]) hst rfl Ten43 ((exprs_all hn _).1 _ _ _ _ _ _ _ (by omega) (by omega) (by omega) (by omega) (Nat.le_refl _) (by first | exact hst.fact | exact hst.fact.2 | exact hst.fact.2.2 | exact hst.fact.2.2.2 | exact hst.fact.2.2.2.2)) rfl ?_)
  clear hst; rintro a _ w U ⟨i11, b11, x11, y11, k11, m11, p11, q11, s11, B11, l11, c11, t11, rfl, h11a, h11b, h11c, h11⟩ hst
  have hst := hst.addFact (ERep.mono _ _) h11
  refine l_op rfl (r_move hst rfl rfl ?_)
  clear hst; intro a hst
  refine l_op rfl (r_extract hst rfl rfl rfl ?_)
  clear hst; intro a hst
  refine l_op rfl (r_extract hst rfl rfl rfl ?_)
  clear hst; intro a hst
  refine l_op rfl (r_alloc hst Tz48 rfl ?_)
  clear hst; intro a w g6 hst
  refine l_op rfl (r_alloc hst Tz58 rfl ?_)
  clear hst; intro a w g7 hst
  refine l_op rfl (r_store hst rfl rfl rfl Tsz48 rfl (.tail (.head (.here (.here (.here (.here (.here (.here (.nil (Nat.zero_le _)))))))))) ?_)
  clear hst; intro w hst
  refine l_op rfl (r_store hst rfl rfl rfl Tsz58 rfl (.head (.here (.here (.here (.here (.here (.here (.nil (Nat.zero_le _))))))))) ?_)
  clear hst; intro w hst
  refine wpList_nil ?_
  refine then_n ?_
  refine wp_seq ?_
  refine wp_region_lit ?_
  refine l_op rfl (r_loada hst rfl Ta58 (.head _) (.cons rfl (.cons rfl (.cons rfl (.cons rfl (.cons rfl (.cons rfl (.nil))))))) rfl rfl ?_)
  clear hst; intro a hst
  refine l_op rfl (r_fieldAddr hst rfl Tf60_3 rfl ?_)
  clear hst; intro a hst
  refine l_op rfl (r_store hst rfl rfl rfl Tsz58 rfl (.tail (.tail (.tail (.head (.there (.there (.there (.here (.here (.here (.here (.here (.here (.nil (Nat.zero_le _))))))))))))))) ?_)
  clear hst; intro w hst
  refine wpList_nil ?_
  refine then_n ?_
  refine wp_seq ?_
  refine x_drawh (by kernel_rfl) hst (.cons _ (.cons_cons _ (.cons _ (.cons_cons _ (.cons _ (.cons _ (.slnil))))))) ?_
  clear hst; intro w hst
  refine h_take (i := 0) hst (.cons _ (.cons_cons _ (.cons _ (.cons_cons _ (.cons _ (.cons _ (.slnil))))))) rfl rfl rfl rfl (by kernel_rfl) (by kernel_rfl) (by kernel_rfl) (fun _ _ _ h => h) (fun _ _ _ _ hst => q_loada hst rfl Ta48 (.head _) (.cons rfl (.cons rfl (.cons rfl (.cons rfl (.cons rfl (.cons rfl (.nil))))))) rfl) ?_
  clear hst; intro a hst
  refine h_take (i := 1) hst (.cons _ (.cons_cons _ (.cons _ (.cons_cons _ (.cons _ (.cons _ (.slnil))))))) rfl rfl rfl rfl (by kernel_rfl) (by kernel_rfl) (by kernel_rfl) (fun _ _ _ h => h) (fun _ _ _ _ hst => q_loada hst rfl Ta60 (.tail _ (.head _)) (.cons rfl (.cons rfl (.cons rfl (.cons rfl (.cons rfl (.cons rfl (.cons rfl (.cons rfl (.cons rfl (.cons rfl (.cons rfl (.nil)))))))))))) rfl) ?_
  clear hst; intro a hst
  refine h_one (i := 2) (by kernel_rfl) rfl rfl (r_store hst rfl rfl rfl Tsz48 rfl (.tail (.tail (.tail (.tail (.tail (.head (.here (.here (.here (.here (.here (.here (.nil (Nat.zero_le _)))))))))))))) ?_)
  clear hst; intro w hst
  refine ⟨hst.held (.cons _ (.cons_cons _ (.cons _ (.cons_cons _ (.cons _ (.cons _ (.slnil))))))), ?_⟩
  refine h_one (i := 3) (by kernel_rfl) rfl rfl (r_store hst rfl rfl rfl Tsz60 rfl (.tail (.tail (.tail (.tail (.head (.here (.here (.here (.here (.here (.here (.here (.here (.here (.here (.here (.nil (Nat.zero_le _)))))))))))))))))) ?_)
  clear hst; intro w hst
  refine ⟨hst.held (.cons _ (.cons_cons _ (.cons _ (.cons_cons _ (.cons _ (.cons _ (.slnil))))))), ?_⟩
  refine h_done (by kernel_rfl) ?_
  refine then_n ?_
  refine wp_ret ?_
  have hgl := Sl.nil kE none 0 w U
  refine x_ret (rs := [.cell 2 48, .cell 3 60]) hst rfl (.agg rfl Ta48 (.tail _ (.tail _ (.tail _ (.tail _ (.tail _ (.head _)))))) rfl (.agg rfl Ta60 (.tail _ (.tail _ (.tail _ (.tail _ (.head _))))) rfl (.nil))) ?_
  exact ⟨_, _, _, _, _, _, _, _, _, _, _, _, _, _, _, _, _, _, _, _, _, ⟨_, _, _, _⟩, rfl, by grind, by grind, by grind, ⟨_, _, _, [_, _, _, _, _, _], _, _, rfl, rfl, hst.fact.2.1, hgl, hst.fact.1, by simp only []; omega⟩⟩
end Go.Proofs.YtjnjkbmegfkiiaaGreat
