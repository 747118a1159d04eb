/- Contracts of the reader of expressions. -/
import Derived.Test.YtjnjkbmegfkiiaaGreatR2
namespace Go.Proofs.YtjnjkbmegfkiiaaGreat
open Go.RowKit
set_option maxRecDepth 10000
set_option linter.unusedVariables false
set_option linter.unusedSimpArgs false
attribute [local irreducible] Oper.wp Code.wp wpList wpAny wpOp Calls CallsS
/-- What a reader of expressions comes to. -/
def RExp (A : Option Addr) (n c : Nat) (i d : Int) (b : Bool) : Value → World → Mk → Prop := fun v w' U' =>
  ∃ (i2 : Int) (b2 : Bool) (x2 y2 k m p q : Int) (s : ByteArray) (B : Option Addr) (l c2 : Nat) (t : ExT), v = .tuple #[.agg #[.slice A n c, .int .i64 i2, .int .i64 d, .bool b2, .int .i64 x2, .int .i64 y2], .agg #[.int .i64 k, .string s, .int .i64 m, .slice B l c2, .int .i64 p, .int .i64 q]] ∧ i ≤ i2 ∧ i2 ≤ n ∧ (b2 = true ∨ (b = false ∧ i < i2)) ∧ ERep w' U' [.int .i64 k, .string s, .int .i64 m, .slice B l c2, .int .i64 p, .int .i64 q] t
def SExp (f : Nat) (A : Option Addr) (n c : Nat) (mm : Nat) : Prop := ∀ (w : World) (U : Mk) (i d x y : Int) (b : Bool), 0 ≤ i → i ≤ n → 0 ≤ d → d ≤ 40 → mu n i b ≤ mm → Toks A n w U → CallsS Tryz.prog f [.agg #[.slice A n c, .int .i64 i, .int .i64 d, .bool b, .int .i64 x, .int .i64 y]] w U (RExp A n c i d b)
def SRank (A : Option Addr) (n c : Nat) (mm : Nat) (k : Int) : Prop := ∀ (w : World) (U : Mk) (i d x y : Int) (b : Bool), 0 ≤ i → i ≤ n → 0 ≤ d → d ≤ 40 → mu n i b ≤ mm → Toks A n w U → CallsS Tryz.prog 64 [.agg #[.slice A n c, .int .i64 i, .int .i64 d, .bool b, .int .i64 x, .int .i64 y], .int .i64 k] w U (RExp A n c i d b)

theorem atom_c {A : Option Addr} {n c : Nat} (hn : n ≤ 1000000) (mm : Nat) (ih : ∀ m, m < mm → SExp 43 A n c m) {w : World} {U : Mk} (i d x y : Int) (b : Bool) (h0 : 0 ≤ i) (hin : i ≤ n) (hd0 : 0 ≤ d) (hd : d ≤ 40) (hmu : mu n i b ≤ mm) (hT : Toks A n w U) :
    CallsS Tryz.prog 101 [.agg #[.slice A n c, .int .i64 i, .int .i64 d, .bool b, .int .i64 x, .int .i64 y]] w U (RExp A n c i d b) := by
  refine x_enter (F := Toks A n) (n := 41) Tryz.func101 rfl rfl (by simp) (.cons (d := 0) rfl (.nil)) (Toks.mono A n) (hT) ?_
  intro a hst
  refine wp_seq ?_
  refine wp_region_lit ?_
  refine l_op rfl (r_box hst rfl rfl rfl ?_)
  clear hst; intro a w g1 hst
  refine l_op rfl (r_alloc hst Tz48 rfl ?_)
  clear hst; intro a w g2 hst
  refine l_op rfl (r_alloc hst Tz58 rfl ?_)
  clear hst; intro a w g3 hst
  refine wpList_nil ?_
  refine then_n ?_
  refine wp_seq ?_
  refine wp_region_lit ?_
  refine l_op rfl (r_loada hst rfl Ta48 (.tail _ (.tail _ (.head _))) (.cons rfl (.cons rfl (.cons rfl (.cons rfl (.cons rfl (.cons rfl (.nil))))))) rfl rfl ?_)
  clear hst; intro a hst
  refine l_op rfl (r_call (xs := [(Operand.tmp 9)]) hst rfl Ten62 (plain_c _ _ _ _ _ (by omega) hn (by first | exact hst.fact | exact hst.fact.2 | exact hst.fact.2.2 | exact hst.fact.2.2.2 | exact hst.fact.2.2.2.2) (by omega)) rfl ?_)
  clear hst; rintro a _ w U ⟨i4, k4, m4, p4, q4, s4, rfl, hp4⟩ hst
  refine l_op rfl (r_move hst rfl rfl ?_)
  clear hst; intro a hst
  refine l_op rfl (r_extract hst rfl rfl rfl ?_)
  clear hst; intro a hst
  refine l_op rfl (r_extract hst rfl rfl rfl ?_)
  clear hst; intro a hst
  refine l_op rfl (r_alloc hst Tz48 rfl ?_)
  clear hst; intro a w g4 hst
  refine l_op rfl (r_alloc hst Tz58 rfl ?_)
  clear hst; intro a w g5 hst
  refine l_op rfl (r_store hst rfl rfl rfl Tsz48 rfl (.tail (.head (.here (.here (.here (.here (.here (.here (.nil (Nat.zero_le _)))))))))) ?_)
  clear hst; intro w hst
  refine l_op rfl (r_store hst rfl rfl rfl Tsz58 rfl (.head (.here (.here (.here (.here (.here (.here (.nil (Nat.zero_le _))))))))) ?_)
  clear hst; intro w hst
  refine wpList_nil ?_
  refine then_n ?_
  refine wp_seq ?_
  refine wp_seq ?_
  refine wp_region_lit ?_
  refine l_op rfl (r_fieldAddr hst rfl Tf58_0 rfl ?_)
  clear hst; intro a hst
  refine l_op rfl (r_loads hst rfl Ts3 (.head _) rfl rfl ?_)
  clear hst; intro a hst
  refine l_op rfl (r_bin hst rfl rfl rfl rfl rfl ?_)
  clear hst; intro a hst
  refine l_op rfl (r_move hst rfl rfl ?_)
  clear hst; intro a hst
  refine hst.split (t := 16) rfl (fun hc1 hst => ?_) (fun hc1 hst => ?_)
  · try simp at hc1
    try (have hz := hb1; simp [hc1] at hz)
    refine l_off hst rfl rfl rfl (by decide) rfl rfl ?_
    clear hst; intro a hst
    refine l_off hst rfl rfl rfl (by decide) rfl rfl ?_
    clear hst; intro a hst
    refine l_op rfl (r_pick hst rfl rfl rfl ?_)
    clear hst; intro a hst
    refine wpList_nil ?_
    refine then_n ?_
    refine x_cond_t hst rfl ?_
    refine wp_seq ?_
    refine x_drawh (by kernel_rfl) hst (.cons_cons _ (.cons_cons _ (.cons _ (.cons _ (.cons _ (.slnil)))))) ?_
    clear hst; intro w hst
    refine h_take (i := 0) hst (.cons_cons _ (.cons_cons _ (.cons _ (.cons _ (.cons _ (.slnil)))))) rfl rfl rfl rfl (by kernel_rfl) (by kernel_rfl) (by kernel_rfl) (fun _ _ _ h => h) (fun _ _ _ _ hst => q_loada hst rfl Ta48 (.tail _ (.head _)) (.cons rfl (.cons rfl (.cons rfl (.cons rfl (.cons rfl (.cons rfl (.nil))))))) rfl) ?_
    clear hst; intro a hst
    refine h_take (i := 1) hst (.cons_cons _ (.cons_cons _ (.cons _ (.cons _ (.cons _ (.slnil)))))) rfl rfl rfl rfl (by kernel_rfl) (by kernel_rfl) (by kernel_rfl) (fun _ _ _ h => h) (fun _ _ _ _ hst => q_loada hst rfl Ta58 (.head _) (.cons rfl (.cons rfl (.cons rfl (.cons rfl (.cons rfl (.cons rfl (.nil))))))) rfl) ?_
    clear hst; intro a hst
    refine h_one (i := 2) (by kernel_rfl) rfl rfl (r_store hst rfl rfl rfl Tsz48 rfl (.tail (.tail (.tail (.head (.here (.here (.here (.here (.here (.here (.nil (Nat.zero_le _)))))))))))) ?_)
    clear hst; intro w hst
    refine ⟨hst.held (.cons_cons _ (.cons_cons _ (.cons _ (.cons _ (.cons _ (.slnil)))))), ?_⟩
    refine h_one (i := 3) (by kernel_rfl) rfl rfl (r_store hst rfl rfl rfl Tsz58 rfl (.tail (.tail (.head (.here (.here (.here (.here (.here (.here (.nil (Nat.zero_le _))))))))))) ?_)
    clear hst; intro w hst
    refine ⟨hst.held (.cons_cons _ (.cons_cons _ (.cons _ (.cons _ (.cons _ (.slnil)))))), ?_⟩
    refine h_done (by kernel_rfl) ?_
    refine then_n ?_
    refine wp_ret ?_
    refine then_r ?_
    refine x_ret (rs := [.cell 2 48, .cell 3 58]) hst rfl (.agg rfl Ta48 (.tail _ (.tail _ (.tail _ (.head _)))) rfl (.agg rfl Ta58 (.tail _ (.tail _ (.head _))) rfl (.nil))) ?_
    first | exact ⟨_, _, _, _, _, _, _, _, _, _, _, _, _, rfl, by grind, by grind, by grind, ERep.of_sl (args := []) (Sl.nil _ _ _ _ _)⟩ | exact ⟨_, _, _, _, _, _, _, _, _, _, _, _, _, rfl, by grind, by grind, by grind, hst.fact.1⟩
  try simp at hc1
  try (have hz := hb1; simp [hc1] at hz)
  refine l_on hst rfl rfl rfl (r_fieldAddr hst rfl Tf48_3 rfl ?_)
  clear hst; intro a hst
  refine l_on hst rfl rfl rfl (r_loads hst rfl Ts4 (.tail _ (.tail _ (.tail _ (.tail _ (.head _))))) rfl rfl ?_)
  clear hst; intro a hst
  refine l_op rfl (r_pick hst rfl rfl rfl ?_)
  clear hst; intro a hst
  refine wpList_nil ?_
  refine then_n ?_
  refine x_cond hst rfl (fun hc2 => ?_) (fun hc2 => ?_)
  · try simp at hc2
    try (have hz := hb1; simp [hc2] at hz)
    refine wp_seq ?_
    refine x_drawh (by kernel_rfl) hst (.cons_cons _ (.cons_cons _ (.cons _ (.cons _ (.cons _ (.slnil)))))) ?_
    clear hst; intro w hst
    refine h_take (i := 0) hst (.cons_cons _ (.cons_cons _ (.cons _ (.cons _ (.cons _ (.slnil)))))) rfl rfl rfl rfl (by kernel_rfl) (by kernel_rfl) (by kernel_rfl) (fun _ _ _ h => h) (fun _ _ _ _ hst => q_loada hst rfl Ta48 (.tail _ (.head _)) (.cons rfl (.cons rfl (.cons rfl (.cons rfl (.cons rfl (.cons rfl (.nil))))))) rfl) ?_
    clear hst; intro a hst
    refine h_take (i := 1) hst (.cons_cons _ (.cons_cons _ (.cons _ (.cons _ (.cons _ (.slnil)))))) rfl rfl rfl rfl (by kernel_rfl) (by kernel_rfl) (by kernel_rfl) (fun _ _ _ h => h) (fun _ _ _ _ hst => q_loada hst rfl Ta58 (.head _) (.cons rfl (.cons rfl (.cons rfl (.cons rfl (.cons rfl (.cons rfl (.nil))))))) rfl) ?_
    clear hst; intro a hst
    refine h_one (i := 2) (by kernel_rfl) rfl rfl (r_store hst rfl rfl rfl Tsz48 rfl (.tail (.tail (.tail (.head (.here (.here (.here (.here (.here (.here (.nil (Nat.zero_le _)))))))))))) ?_)
    clear hst; intro w hst
    refine ⟨hst.held (.cons_cons _ (.cons_cons _ (.cons _ (.cons _ (.cons _ (.slnil)))))), ?_⟩
    refine h_one (i := 3) (by kernel_rfl) rfl rfl (r_store hst rfl rfl rfl Tsz58 rfl (.tail (.tail (.head (.here (.here (.here (.here (.here (.here (.nil (Nat.zero_le _))))))))))) ?_)
    clear hst; intro w hst
    refine ⟨hst.held (.cons_cons _ (.cons_cons _ (.cons _ (.cons _ (.cons _ (.slnil)))))), ?_⟩
    refine h_done (by kernel_rfl) ?_
    refine then_n ?_
    refine wp_ret ?_
    refine then_r ?_
    refine x_ret (rs := [.cell 2 48, .cell 3 58]) hst rfl (.agg rfl Ta48 (.tail _ (.tail _ (.tail _ (.head _)))) rfl (.agg rfl Ta58 (.tail _ (.tail _ (.head _))) rfl (.nil))) ?_
    first | exact ⟨_, _, _, _, _, _, _, _, _, _, _, _, _, rfl, by grind, by grind, by grind, ERep.of_sl (args := []) (Sl.nil _ _ _ _ _)⟩ | exact ⟨_, _, _, _, _, _, _, _, _, _, _, _, _, rfl, by grind, by grind, by grind, hst.fact.1⟩
  try simp at hc2
  try (have hz := hb1; simp [hc2] at hz)
  refine wp_skip ?_
  refine then_n ?_
  refine wp_seq ?_
  refine wp_seq ?_
  refine wp_region_lit ?_
  refine l_op rfl (r_loada hst rfl Ta48 (.tail _ (.tail _ (.tail _ (.tail _ (.head _))))) (.cons rfl (.cons rfl (.cons rfl (.cons rfl (.cons rfl (.cons rfl (.nil))))))) rfl rfl ?_)
  clear hst; intro a hst
  refine l_op rfl (r_call (xs := [(Operand.tmp 22), (Operand.const (Value.int IntKind.i64 6)), (Operand.const (Value.string { data := #[40] }))]) hst rfl Ten14 (is_c _ _ _ _ _ _ _ (by omega) hn (by first | exact hst.fact | exact hst.fact.2 | exact hst.fact.2.2 | exact hst.fact.2.2.2 | exact hst.fact.2.2.2.2) (by decide)) rfl ?_)
  clear hst; rintro a _ w U ⟨b1, rfl, hb1⟩ hst
  refine l_op rfl (r_not hst rfl rfl ?_)
  clear hst; intro a hst
  refine wpList_nil ?_
  refine then_n ?_
  refine x_cond hst rfl (fun hc3 => ?_) (fun hc3 => ?_)
  · try simp at hc3
    try (have hz := hb1; simp [hc3] at hz)
    refine wp_seq ?_
    refine x_drawh (by kernel_rfl) hst (.cons_cons _ (.cons _ (.cons _ (.cons _ (.cons_cons _ (.slnil)))))) ?_
    clear hst; intro w hst
    refine h_take (i := 0) hst (.cons_cons _ (.cons _ (.cons _ (.cons _ (.cons_cons _ (.slnil)))))) rfl rfl rfl rfl (by kernel_rfl) (by kernel_rfl) (by kernel_rfl) (fun _ _ _ h => h) (fun _ _ _ _ hst => q_loada hst rfl Ta48 (.tail _ (.head _)) (.cons rfl (.cons rfl (.cons rfl (.cons rfl (.cons rfl (.cons rfl (.nil))))))) rfl) ?_
    clear hst; intro a hst
    refine h_take (i := 2) hst (.cons_cons _ (.cons _ (.cons _ (.cons _ (.cons_cons _ (.slnil)))))) rfl rfl rfl rfl (by kernel_rfl) (by kernel_rfl) (by kernel_rfl) (fun _ _ _ h => h) (fun _ _ _ _ hst => q_loada hst rfl Ta58 (.head _) (.cons rfl (.cons rfl (.cons rfl (.cons rfl (.cons rfl (.cons rfl (.nil))))))) rfl) ?_
    clear hst; intro a hst
    refine h_one (i := 1) (by kernel_rfl) rfl rfl (r_call (xs := [(Operand.tmp 25)]) hst rfl Ten39 (fail_c _ _ _ _ _ (by omega) hn (by first | exact hst.fact | exact hst.fact.2 | exact hst.fact.2.2 | exact hst.fact.2.2.2 | exact hst.fact.2.2.2.2)) rfl ?_)
    clear hst; rintro a _ w U ⟨xf, yf, rfl⟩ hst
    refine ⟨hst.held (.cons_cons _ (.cons _ (.cons _ (.cons _ (.cons_cons _ (.slnil)))))), ?_⟩
    refine h_one (i := 3) (by kernel_rfl) rfl rfl (r_store hst rfl rfl rfl Tsz48 rfl (.tail (.tail (.tail (.head (.here (.here (.here (.here (.here (.here (.nil (Nat.zero_le _)))))))))))) ?_)
    clear hst; intro w hst
    refine ⟨hst.held (.cons_cons _ (.cons _ (.cons _ (.cons _ (.cons_cons _ (.slnil)))))), ?_⟩
    refine h_one (i := 4) (by kernel_rfl) rfl rfl (r_store hst rfl rfl rfl Tsz58 rfl (.tail (.tail (.head (.here (.here (.here (.here (.here (.here (.nil (Nat.zero_le _))))))))))) ?_)
    clear hst; intro w hst
    refine ⟨hst.held (.cons_cons _ (.cons _ (.cons _ (.cons _ (.cons_cons _ (.slnil)))))), ?_⟩
    refine h_done (by kernel_rfl) ?_
    refine then_n ?_
    refine wp_ret ?_
    refine then_r ?_
    refine x_ret (rs := [.cell 2 48, .cell 3 58]) hst rfl (.agg rfl Ta48 (.tail _ (.tail _ (.tail _ (.head _)))) rfl (.agg rfl Ta58 (.tail _ (.tail _ (.head _))) rfl (.nil))) ?_
    first | exact ⟨_, _, _, _, _, _, _, _, _, _, _, _, _, rfl, by grind, by grind, by grind, ERep.of_sl (args := []) (Sl.nil _ _ _ _ _)⟩ | exact ⟨_, _, _, _, _, _, _, _, _, _, _, _, _, rfl, by grind, by grind, by grind, hst.fact.1⟩
  try simp at hc3
  try (have hz := hb1; simp [hc3] at hz)
  refine wp_skip ?_
  refine then_n ?_
  refine wp_seq ?_
  refine wp_region_lit ?_
  refine l_op rfl (r_loada hst rfl Ta48 (.tail _ (.tail _ (.tail _ (.tail _ (.head _))))) (.cons rfl (.cons rfl (.cons rfl (.cons rfl (.cons rfl (.cons rfl (.nil))))))) rfl rfl ?_)
  clear hst; intro a hst
  refine l_op rfl (r_call (xs := [(Operand.tmp 29)]) hst rfl Ten63 (down_c _ _ _ _ _ (by omega) hn (by first | exact hst.fact | exact hst.fact.2 | exact hst.fact.2.2 | exact hst.fact.2.2.2 | exact hst.fact.2.2.2.2) (by omega) (by omega) (by omega)) rfl ?_)
  clear hst; rintro a _ w U ⟨i3, d3, b3, x3, y3, rfl, hd3⟩ hst
  refine l_op rfl (r_call (xs := [(Operand.tmp 30)]) hst rfl Ten43 (ih _ (Nat.lt_of_lt_of_le (mu_lt (by grind) (by omega) (by omega) (by grind)) hmu) _ _ _ _ _ _ _ (by omega) (by omega) (by omega) (by omega) (Nat.le_refl _) (by first | exact hst.fact | exact hst.fact.2 | exact hst.fact.2.2 | exact hst.fact.2.2.2 | exact hst.fact.2.2.2.2)) rfl ?_)
  clear hst; rintro a _ w U ⟨i9, b9, x9, y9, k9, m9, p9, q9, s9, B9, l9, c9, t9, rfl, h9a, h9b, h9c, h9⟩ hst
  have hst := hst.addFact (ERep.mono _ _) h9
  refine l_op rfl (r_move hst rfl rfl ?_)
  clear hst; intro a hst
  refine l_op rfl (r_extract hst rfl rfl rfl ?_)
  clear hst; intro a hst
  refine l_op rfl (r_extract hst rfl rfl rfl ?_)
  clear hst; intro a hst
  refine l_op rfl (r_alloc hst Tz48 rfl ?_)
  clear hst; intro a w g6 hst
  refine l_op rfl (r_alloc hst Tz58 rfl ?_)
  clear hst; intro a w g7 hst
  refine l_op rfl (r_store hst rfl rfl rfl Tsz48 rfl (.tail (.head (.here (.here (.here (.here (.here (.here (.nil (Nat.zero_le _)))))))))) ?_)
  clear hst; intro w hst
  refine l_op rfl (r_store hst rfl rfl rfl Tsz58 rfl (.head (.here (.here (.here (.here (.here (.here (.nil (Nat.zero_le _))))))))) ?_)
  clear hst; intro w hst
  refine wpList_nil ?_
  refine then_n ?_
  refine wp_seq ?_
  refine wp_region_lit ?_
  refine l_op rfl (r_loada hst rfl Ta48 (.tail _ (.head _)) (.cons rfl (.cons rfl (.cons rfl (.cons rfl (.cons rfl (.cons rfl (.nil))))))) rfl rfl ?_)
  clear hst; intro a hst
  refine l_op rfl (r_call (xs := [(Operand.tmp 34), (Operand.const (Value.int IntKind.i64 6)), (Operand.const (Value.string { data := #[41] }))]) hst rfl Ten13 (take_c _ _ _ _ _ _ _ (by omega) hn (by first | exact hst.fact | exact hst.fact.2 | exact hst.fact.2.2 | exact hst.fact.2.2.2 | exact hst.fact.2.2.2.2) (by omega) (by decide)) rfl ?_)
  clear hst; rintro a _ w U ⟨i1, b1, x1, y1, rfl, ht1⟩ hst
  refine l_op rfl (r_store hst rfl rfl rfl Tsz48 rfl (.tail (.head (.here (.here (.here (.here (.here (.here (.nil (Nat.zero_le _)))))))))) ?_)
  clear hst; intro w hst
  refine wpList_nil ?_
  refine then_n ?_
  refine wp_seq ?_
  refine wp_region_lit ?_
  refine l_op rfl (r_fieldAddr hst rfl Tf48_2 rfl ?_)
  clear hst; intro a hst
  refine l_op rfl (r_loads hst rfl Ts3 (.tail _ (.tail _ (.tail _ (.tail _ (.tail _ (.tail _ (.head _))))))) rfl rfl ?_)
  clear hst; intro a hst
  refine l_op rfl (r_fieldAddr hst rfl Tf48_2 rfl ?_)
  clear hst; intro a hst
  refine l_op rfl (r_store hst rfl rfl rfl Tsz3 rfl (.tail (.head (.there (.there (.here (.nil (Nat.zero_le _))))))) ?_)
  clear hst; intro w hst
  refine wpList_nil ?_
  refine then_n ?_
  refine wp_seq ?_
  refine x_drawh (by kernel_rfl) hst (.cons_cons _ (.cons_cons _ (.cons _ (.cons _ (.cons _ (.cons _ (.cons _ (.slnil)))))))) ?_
  clear hst; intro w hst
  refine h_take (i := 0) hst (.cons_cons _ (.cons_cons _ (.cons _ (.cons _ (.cons _ (.cons _ (.cons _ (.slnil)))))))) rfl rfl rfl rfl (by kernel_rfl) (by kernel_rfl) (by kernel_rfl) (fun _ _ _ h => h) (fun _ _ _ _ hst => q_loada hst rfl Ta48 (.tail _ (.head _)) (.cons rfl (.cons rfl (.cons rfl (.cons rfl (.cons rfl (.cons rfl (.nil))))))) rfl) ?_
  clear hst; intro a hst
  refine h_take (i := 1) hst (.cons_cons _ (.cons_cons _ (.cons _ (.cons _ (.cons _ (.cons _ (.cons _ (.slnil)))))))) rfl rfl rfl rfl (by kernel_rfl) (by kernel_rfl) (by kernel_rfl) (fun _ _ _ h => h) (fun _ _ _ _ hst => q_loada hst rfl Ta58 (.head _) (.cons rfl (.cons rfl (.cons rfl (.cons rfl (.cons rfl (.cons rfl (.nil))))))) rfl) ?_
  clear hst; intro a hst
  refine h_one (i := 2) (by kernel_rfl) rfl rfl (r_store hst rfl rfl rfl Tsz48 rfl (.tail (.tail (.tail (.tail (.tail (.head (.here (.here (.here (.here (.here (.here (.nil (Nat.zero_le _)))))))))))))) ?_)
  clear hst; intro w hst
  refine ⟨hst.held (.cons_cons _ (.cons_cons _ (.cons _ (.cons _ (.cons _ (.cons _ (.cons _ (.slnil)))))))), ?_⟩
  refine h_one (i := 3) (by kernel_rfl) rfl rfl (r_store hst rfl rfl rfl Tsz58 rfl (.tail (.tail (.tail (.tail (.head (.here (.here (.here (.here (.here (.here (.nil (Nat.zero_le _))))))))))))) ?_)
  clear hst; intro w hst
  refine ⟨hst.held (.cons_cons _ (.cons_cons _ (.cons _ (.cons _ (.cons _ (.cons _ (.cons _ (.slnil)))))))), ?_⟩
  refine h_done (by kernel_rfl) ?_
  refine then_n ?_
  refine wp_ret ?_
  refine x_ret (rs := [.cell 2 48, .cell 3 58]) hst rfl (.agg rfl Ta48 (.tail _ (.tail _ (.tail _ (.tail _ (.tail _ (.head _)))))) rfl (.agg rfl Ta58 (.tail _ (.tail _ (.tail _ (.tail _ (.head _))))) rfl (.nil))) ?_
  first | exact ⟨_, _, _, _, _, _, _, _, _, _, _, _, _, rfl, by grind, by grind, by grind, ERep.of_sl (args := []) (Sl.nil _ _ _ _ _)⟩ | exact ⟨_, _, _, _, _, _, _, _, _, _, _, _, _, rfl, by grind, by grind, by grind, hst.fact.1⟩

/-- What holds at the head of the loop over arguments. -/
def InvApp (w0 : World) (U0 : Mk) (A : Option Addr) (n c : Nat) (i d : Int) (b : Bool) (k m p q : Int) (s : ByteArray) (Be : Option Addr) (le ce : Nat) (t0 : ExT) (g2 g3 g4 g5 : Nat) (mz : Nat) (a : Act) (w : World) : Prop :=
  ∃ (U : Mk) (i' x' y' : Int) (b' : Bool) (B : Option Addr) (l cc : Nat) (xs : List Value) (ts : List ExT),
    Sta w0 U0 44 [(2, .pointer (some ⟨g2, 0, none⟩)), (3, .pointer (some ⟨g3, 0, none⟩)), (4, .pointer (some ⟨g4, 0, none⟩)), (5, .pointer (some ⟨g5, 0, none⟩)), (6, .slice B l cc)] [⟨g5, 58, [.int .i64 k, .string s, .int .i64 m, .slice Be le ce, .int .i64 p, .int .i64 q]⟩, ⟨g4, 48, [.slice A n c, .int .i64 i', .int .i64 d, .bool b', .int .i64 x', .int .i64 y']⟩, ⟨g3, 58, [.int .i64 0, .string ⟨#[]⟩, .int .i64 0, .slice none 0 0, .int .i64 0, .int .i64 0]⟩, ⟨g2, 48, [.slice none 0 0, .int .i64 0, .int .i64 0, .bool false, .int .i64 0, .int .i64 0]⟩] [⟨.slice B l cc, 58, 6, l⟩] (fun w U => ((Cont (.slice B l cc) xs w U ∧ Flat kE xs ts w U) ∧ ERep w U [.int .i64 k, .string s, .int .i64 m, .slice Be le ce, .int .i64 p, .int .i64 q] t0) ∧ Toks A n w U) a w U ∧
    i ≤ i' ∧ i' ≤ n ∧ ts.length = l ∧ l ≤ cc ∧ xs.length = l * 6 ∧ l + mu n i' b' ≤ 2 * n + 2 ∧ (b' = true ∨ (b = false ∧ i < i')) ∧ mz = mu n i' b'

theorem app_c {A : Option Addr} {n c : Nat} (hn : n ≤ 1000000) (mm : Nat) (hat : SExp 101 A n c mm) {w : World} {U : Mk} (i d x y : Int) (b : Bool) (h0 : 0 ≤ i) (hin : i ≤ n) (hd0 : 0 ≤ d) (hd : d ≤ 40) (hmu : mu n i b ≤ mm) (hT : Toks A n w U) :
    CallsS Tryz.prog 81 [.agg #[.slice A n c, .int .i64 i, .int .i64 d, .bool b, .int .i64 x, .int .i64 y]] w U (RExp A n c i d b) := by
  refine x_enter (F := Toks A n) (n := 44) Tryz.func81 rfl rfl (by simp) (.cons (d := 0) rfl (.nil)) (Toks.mono A n) (hT) ?_
  intro a hst
  refine wp_seq ?_
  refine wp_region_lit ?_
  refine l_op rfl (r_box hst rfl rfl rfl ?_)
  clear hst; intro a w g1 hst
  refine l_op rfl (r_alloc hst Tz48 rfl ?_)
  clear hst; intro a w g2 hst
  refine l_op rfl (r_alloc hst Tz58 rfl ?_)
  clear hst; intro a w g3 hst
  refine wpList_nil ?_
  refine then_n ?_
  refine wp_seq ?_
  refine wp_region_lit ?_
  refine l_op rfl (r_loada hst rfl Ta48 (.tail _ (.tail _ (.head _))) (.cons rfl (.cons rfl (.cons rfl (.cons rfl (.cons rfl (.cons rfl (.nil))))))) rfl rfl ?_)
  clear hst; intro a hst
  refine l_op rfl (r_call (xs := [(Operand.tmp 10)]) hst rfl Ten101 (hat _ _ _ _ _ _ _ (by omega) (by omega) (by omega) (by omega) hmu (by first | exact hst.fact | exact hst.fact.2 | exact hst.fact.2.2 | exact hst.fact.2.2.2 | exact hst.fact.2.2.2.2)) rfl ?_)
  clear hst; rintro a _ w U ⟨i9, b9, x9, y9, k9, m9, p9, q9, s9, B9, l9, c9, t9, rfl, h9a, h9b, h9c, h9⟩ hst
  have hst := hst.addFact (ERep.mono _ _) h9
  refine l_op rfl (r_move hst rfl rfl ?_)
  clear hst; intro a hst
  refine l_op rfl (r_extract hst rfl rfl rfl ?_)
  clear hst; intro a hst
  refine l_op rfl (r_extract hst rfl rfl rfl ?_)
  clear hst; intro a hst
  refine l_op rfl (r_alloc hst Tz48 rfl ?_)
  clear hst; intro a w g4 hst
  refine l_op rfl (r_alloc hst Tz58 rfl ?_)
  clear hst; intro a w g5 hst
  refine l_op rfl (r_store hst rfl rfl rfl Tsz48 rfl (.tail (.head (.here (.here (.here (.here (.here (.here (.nil (Nat.zero_le _)))))))))) ?_)
  clear hst; intro w hst
  refine l_op rfl (r_store hst rfl rfl rfl Tsz58 rfl (.head (.here (.here (.here (.here (.here (.here (.nil (Nat.zero_le _))))))))) ?_)
  clear hst; intro w hst
  refine wpList_nil ?_
  refine then_n ?_
  refine wp_seq ?_
  refine wp_region_lit ?_
  refine l_op rfl (r_loada hst rfl Ta58 (.head _) (.cons rfl (.cons rfl (.cons rfl (.cons rfl (.cons rfl (.cons rfl (.nil))))))) rfl rfl ?_)
  clear hst; intro a hst
  refine l_op rfl (r_slice1 hst Tu56 Tsz58 Tz58 rfl (by decide) (by decide) rfl rfl rfl rfl ?_)
  clear hst; intro a w g6 hst
  refine l_op rfl (r_assign hst rfl rfl ?_)
  clear hst; intro a hst
  refine wpList_nil ?_
  refine then_n ?_
  refine wp_seq ?_
  refine wp_block ?_
  obtain ⟨U1, hext1, hcont1, hst⟩ := hst.enrow_ (m := 1) (sz := 6) (.head) rfl (by decide) (by decide) (by decide)
  have hst := ((hst.keep (ds := [2, 3, 4, 5, 6]) (.cons rfl (.cons rfl (.cons rfl (.cons rfl (.cons rfl (.nil))))))).drop (.cons_cons _ (.cons_cons _ (.cons_cons _ (.cons_cons _ (.cons _ (.slnil)))))))
  have hst := hst.newFact (G := fun w U => ((Cont (.slice (some ⟨g6, 0, none⟩) 1 1) [.int .i64 k9, .string s9, .int .i64 m9, .slice B9 l9 c9, .int .i64 p9, .int .i64 q9] w U ∧ Flat kE [.int .i64 k9, .string s9, .int .i64 m9, .slice B9 l9 c9, .int .i64 p9, .int .i64 q9] [t9] w U) ∧ ERep w U [.int .i64 k9, .string s9, .int .i64 m9, .slice B9 l9 c9, .int .i64 p9, .int .i64 q9] t9) ∧ Toks A n w U) ((Mono.and (Mono.and (Mono.and (Cont.mono _ _) (Flat.mono kE _ _)) (ERep.mono _ _)) (Toks.mono A n))) ⟨⟨⟨hcont1, Flat.one hst.fact.1⟩, hst.fact.1⟩, hst.fact.2⟩
  refine wp_loop_ghost (InvApp _ _ A n c i d b k9 m9 p9 q9 s9 B9 l9 c9 t9 g2 g3 g4 g5) (mu n i9 b9) ⟨_, _, _, _, _, _, _, _, _, _, hst, by omega, by omega, rfl, by omega, rfl, by have := mu_bd n i9 b9 (by omega); omega, h9c, rfl⟩ ?_
  clear hst
  rintro m a w ⟨U, i', x', y', b', B, l, cc, xs, ts, hst, hi1, hi2, hl, hcc, hxl, hlm, hbb, rfl⟩
  refine wp_seq ?_
  refine wp_seq ?_
  refine wp_region_lit ?_
  refine l_op rfl (r_fieldAddr hst rfl Tf48_3 rfl ?_)
  clear hst; intro a hst
  refine l_op rfl (r_loads hst rfl Ts4 (.tail _ (.head _)) rfl rfl ?_)
  clear hst; intro a hst
  refine l_op rfl (r_not hst rfl rfl ?_)
  clear hst; intro a hst
  refine l_op rfl (r_move hst rfl rfl ?_)
  clear hst; intro a hst
  refine hst.split (t := 19) rfl (fun hc1 hst => ?_) (fun hc1 hst => ?_)
  · try simp at hc1
    try (have hz := hb1; simp [hc1] at hz)
    refine l_on hst rfl rfl rfl (r_loada hst rfl Ta48 (.tail _ (.head _)) (.cons rfl (.cons rfl (.cons rfl (.cons rfl (.cons rfl (.cons rfl (.nil))))))) rfl rfl ?_)
    clear hst; intro a hst
    refine l_on hst rfl rfl rfl (r_call (xs := [(Operand.tmp 20)]) hst rfl Ten12 (now_c _ _ _ _ _ (by omega) hn (by first | exact hst.fact | exact hst.fact.2 | exact hst.fact.2.2 | exact hst.fact.2.2.2 | exact hst.fact.2.2.2.2)) rfl ?_)
    clear hst; rintro a _ w U ⟨k1, m1, p1, q1, s1, rfl, hk1⟩ hst
    refine l_on hst rfl rfl rfl (r_call (xs := [(Operand.tmp 21)]) hst rfl Ten102 (starts_c _ _ _ _ _) rfl ?_)
    clear hst; rintro a _ w U ⟨b5, rfl, hs5⟩ hst
    refine l_op rfl (r_pick hst rfl rfl rfl ?_)
    clear hst; intro a hst
    refine wpList_nil ?_
    refine then_n ?_
    refine x_cond hst rfl (fun hc2 => ?_) (fun hc2 => ?_)
    · try simp at hc2
      try (have hz := hb1; simp [hc2] at hz)
      refine wp_skip ?_
      refine then_n ?_
      refine wp_block ?_
      refine wp_seq ?_
      refine wp_region_lit ?_
      refine l_op rfl (r_loada hst rfl Ta48 (.tail _ (.head _)) (.cons rfl (.cons rfl (.cons rfl (.cons rfl (.cons rfl (.cons rfl (.nil))))))) rfl rfl ?_)
      clear hst; intro a hst
      refine l_op rfl (r_call (xs := [(Operand.tmp 25)]) hst rfl Ten101 (hat _ _ _ _ _ _ _ (by omega) (by omega) (by omega) (by omega) (Nat.le_trans (mu_le (i := i) (b := b) (by omega) (by grind)) hmu) (by first | exact hst.fact | exact hst.fact.2 | exact hst.fact.2.2 | exact hst.fact.2.2.2 | exact hst.fact.2.2.2.2)) rfl ?_)
      clear hst; rintro a _ w U ⟨i10, b10, x10, y10, k10, m10, p10, q10, s10, B10, l10, c10, t10, rfl, h10a, h10b, h10c, h10⟩ hst
      have hst := hst.addFact (ERep.mono _ _) h10
      refine l_op rfl (r_move hst rfl rfl ?_)
      clear hst; intro a hst
      refine l_op rfl (r_extract hst rfl rfl rfl ?_)
      clear hst; intro a hst
      refine l_op rfl (r_extract hst rfl rfl rfl ?_)
      clear hst; intro a hst
      refine l_op rfl (r_alloc hst Tz48 rfl ?_)
      clear hst; intro a w g7 hst
      refine l_op rfl (r_alloc hst Tz58 rfl ?_)
      clear hst; intro a w g8 hst
      refine l_op rfl (r_store hst rfl rfl rfl Tsz48 rfl (.tail (.head (.here (.here (.here (.here (.here (.here (.nil (Nat.zero_le _)))))))))) ?_)
      clear hst; intro w hst
      refine l_op rfl (r_store hst rfl rfl rfl Tsz58 rfl (.head (.here (.here (.here (.here (.here (.here (.nil (Nat.zero_le _))))))))) ?_)
      clear hst; intro w hst
      refine wpList_nil ?_
      refine then_n ?_
      refine wp_seq ?_
      refine wp_region_lit ?_
      refine l_op rfl (r_loada hst rfl Ta48 (.tail _ (.head _)) (.cons rfl (.cons rfl (.cons rfl (.cons rfl (.cons rfl (.cons rfl (.nil))))))) rfl rfl ?_)
      clear hst; intro a hst
      refine l_op rfl (r_store hst rfl rfl rfl Tsz48 rfl (.tail (.tail (.tail (.head (.here (.here (.here (.here (.here (.here (.nil (Nat.zero_le _)))))))))))) ?_)
      clear hst; intro w hst
      refine wpList_nil ?_
      refine then_n ?_
      refine wp_region_lit ?_
      refine l_op rfl (r_move hst rfl rfl ?_)
      clear hst; intro a hst
      refine l_op rfl (r_loada hst rfl Ta58 (.head _) (.cons rfl (.cons rfl (.cons rfl (.cons rfl (.cons rfl (.cons rfl (.nil))))))) rfl rfl ?_)
      clear hst; intro a hst
      refine l_op rfl (r_slice1 hst Tu56 Tsz58 Tz58 rfl (by decide) (by decide) rfl rfl rfl rfl ?_)
      clear hst; intro a w g9 hst
      refine l_op rfl (r_append hst rfl rfl Tet56 (.head _) rfl (by decide) rfl hst.fact.2.1.1.1 hxl (by omega) (by omega) rfl ?_)
      clear hst; intro a v w U hext hcont hv hst
      obtain ⟨B2, c2, rfl, hcc2⟩ := hv
      refine l_op rfl (r_assign hst rfl rfl ?_)
      clear hst; intro a hst
      refine wpList_nil ?_
      refine inb_n ?_
      have hst := ((hst.keep (ds := [2, 3, 4, 5, 6]) (.cons rfl (.cons rfl (.cons rfl (.cons rfl (.cons rfl (.nil))))))).drop (.cons _ (.cons _ (.cons _ (.cons_cons _ (.cons_cons _ (.cons_cons _ (.cons_cons _ (.slnil)))))))))
      have hfl := Flat.snoc hst.fact.2.1.1.2 hst.fact.1
      have hst := hst.newFact ((Mono.and (Mono.and (Mono.and (Cont.mono _ _) (Flat.mono kE _ _)) (ERep.mono _ _)) (Toks.mono A n))) ⟨⟨⟨hcont, hfl⟩, hst.fact.2.1.2⟩, hst.fact.2.2⟩
      have hmm : mu n i10 b10 < mu n i' b' := mu_lt (by grind) (by omega) (by omega) (by grind)
      exact then_k ⟨mu n i10 b10, hmm, _, i10, x10, y10, b10, _, _, _, _, _, hst, by omega, by omega, by simp [hl], hcc2, by simp [hxl]; omega, by omega, by grind, rfl⟩
    try simp at hc2
    try (have hz := hb1; simp [hc2] at hz)
    refine wp_exit ?_
    refine then_x ?_
    refine then_x ?_
    refine inb_hit ?_
    refine then_n ?_
    refine wp_seq ?_
    refine wp_seq ?_
    refine wp_region_lit ?_
    refine l_op rfl (r_move hst rfl rfl ?_)
    clear hst; intro a hst
    refine l_op rfl (r_lensl hst rfl Tu56 rfl ?_)
    clear hst; intro a hst
    refine l_op rfl (r_bin hst rfl rfl rfl rfl rfl ?_)
    clear hst; intro a hst
    refine wpList_nil ?_
    refine then_n ?_
    refine x_cond hst rfl (fun hc3 => ?_) (fun hc3 => ?_)
    · try simp at hc3
      try (have hz := hb1; simp [hc3] at hz)
      refine wp_seq ?_
      refine x_drawh (by kernel_rfl) hst (.cons_cons _ (.cons_cons _ (.cons _ (.cons _ (.slnil))))) ?_
      clear hst; intro w hst
      refine h_take (i := 0) hst (.cons_cons _ (.cons_cons _ (.cons _ (.cons _ (.slnil))))) rfl rfl rfl rfl (by kernel_rfl) (by kernel_rfl) (by kernel_rfl) (fun _ _ _ h => h) (fun _ _ _ _ hst => q_loada hst rfl Ta48 (.tail _ (.head _)) (.cons rfl (.cons rfl (.cons rfl (.cons rfl (.cons rfl (.cons rfl (.nil))))))) rfl) ?_
      clear hst; intro a hst
      refine h_take (i := 1) hst (.cons_cons _ (.cons_cons _ (.cons _ (.cons _ (.slnil))))) rfl rfl rfl rfl (by kernel_rfl) (by kernel_rfl) (by kernel_rfl) (fun _ _ _ h => h) (fun _ _ _ _ hst => q_loada hst rfl Ta58 (.head _) (.cons rfl (.cons rfl (.cons rfl (.cons rfl (.cons rfl (.cons rfl (.nil))))))) rfl) ?_
      clear hst; intro a hst
      refine h_one (i := 2) (by kernel_rfl) rfl rfl (r_store hst rfl rfl rfl Tsz48 rfl (.tail (.tail (.tail (.head (.here (.here (.here (.here (.here (.here (.nil (Nat.zero_le _)))))))))))) ?_)
      clear hst; intro w hst
      refine ⟨hst.held (.cons_cons _ (.cons_cons _ (.cons _ (.cons _ (.slnil))))), ?_⟩
      refine h_one (i := 3) (by kernel_rfl) rfl rfl (r_store hst rfl rfl rfl Tsz58 rfl (.tail (.tail (.head (.here (.here (.here (.here (.here (.here (.nil (Nat.zero_le _))))))))))) ?_)
      clear hst; intro w hst
      refine ⟨hst.held (.cons_cons _ (.cons_cons _ (.cons _ (.cons _ (.slnil))))), ?_⟩
      refine h_done (by kernel_rfl) ?_
      refine then_n ?_
      refine wp_ret ?_
      refine then_r ?_
      refine x_ret (rs := [.cell 2 48, .cell 3 58]) hst rfl (.agg rfl Ta48 (.tail _ (.tail _ (.tail _ (.head _)))) rfl (.agg rfl Ta58 (.tail _ (.tail _ (.head _))) rfl (.nil))) ?_
      first | exact ⟨_, _, _, _, _, _, _, _, _, _, _, _, _, rfl, by grind, by grind, by grind, hst.fact.1.2⟩ | exact ⟨_, _, _, _, _, _, _, _, _, _, _, _, _, rfl, by grind, by grind, by grind, (ERep.of_sl (Sl.of_flat hst.fact.1.1.1 hst.fact.1.1.2 hl hcc))⟩
    try simp at hc3
    try (have hz := hb1; simp [hc3] at hz)
    refine wp_skip ?_
    refine then_n ?_
    refine wp_seq ?_
    refine x_drawh (by kernel_rfl) hst (.cons_cons _ (.cons_cons _ (.cons _ (.cons _ (.slnil))))) ?_
    clear hst; intro w hst
    refine h_take (i := 0) hst (.cons_cons _ (.cons_cons _ (.cons _ (.cons _ (.slnil))))) rfl rfl rfl rfl (by kernel_rfl) (by kernel_rfl) (by kernel_rfl) (fun _ _ _ h => h) (fun _ _ _ _ hst => q_loada hst rfl Ta48 (.tail _ (.head _)) (.cons rfl (.cons rfl (.cons rfl (.cons rfl (.cons rfl (.cons rfl (.nil))))))) rfl) ?_
    clear hst; intro a hst
    refine h_take (i := 1) hst (.cons_cons _ (.cons_cons _ (.cons _ (.cons _ (.slnil))))) rfl rfl rfl rfl (by kernel_rfl) (by kernel_rfl) (by kernel_rfl) (fun _ _ _ h => h) (fun _ _ _ _ hst => q_move hst rfl) ?_
    clear hst; intro a hst
    refine h_take (i := 2) hst (.cons_cons _ (.cons_cons _ (.cons _ (.cons _ (.slnil))))) rfl rfl rfl rfl (by kernel_rfl) (by kernel_rfl) (by kernel_rfl) (fun _ _ _ h => h) (fun _ _ _ _ hst => q_fieldAddr hst rfl Tf58_4) ?_
    clear hst; intro a hst
    refine h_take (i := 3) hst (.cons_cons _ (.cons_cons _ (.cons _ (.cons _ (.slnil))))) rfl rfl rfl rfl (by kernel_rfl) (by kernel_rfl) (by kernel_rfl) (fun _ _ _ h => h) (fun _ _ _ _ hst => q_loada hst rfl Ta28 (.head _) (.cons rfl (.cons rfl (.nil))) rfl) ?_
    clear hst; intro a hst
    refine h_take (i := 4) hst (.cons_cons _ (.cons_cons _ (.cons _ (.cons _ (.slnil))))) rfl rfl rfl rfl (by kernel_rfl) (by kernel_rfl) (by kernel_rfl) (fun _ _ _ h => h) (fun _ _ _ _ hst => q_build (ps := [(0, (Operand.const (Value.int IntKind.i64 4))), (3, (Operand.tmp 40)), (4, (Operand.tmp 42))]) hst Tso58 Tz58 (.cons Tf58_0 rfl rfl (.here (.nil (Nat.zero_le _))) (.cons Tf58_3 rfl rfl (.there (.there (.there (.here (.nil (Nat.zero_le _)))))) (.cons Tf58_4 rfl rfl (.there (.there (.there (.there (.here (.here (.nil (Nat.zero_le _)))))))) (.nil))))) ?_
    clear hst; intro a hst
    refine h_one (i := 5) (by kernel_rfl) rfl rfl (r_store hst rfl rfl rfl Tsz48 rfl (.tail (.tail (.tail (.head (.here (.here (.here (.here (.here (.here (.nil (Nat.zero_le _)))))))))))) ?_)
    clear hst; intro w hst
    refine ⟨hst.held (.cons_cons _ (.cons_cons _ (.cons _ (.cons _ (.slnil))))), ?_⟩
    refine h_one (i := 6) (by kernel_rfl) rfl rfl (r_store hst rfl rfl rfl Tsz58 rfl (.tail (.tail (.head (.here (.here (.here (.here (.here (.here (.nil (Nat.zero_le _))))))))))) ?_)
    clear hst; intro w hst
    refine ⟨hst.held (.cons_cons _ (.cons_cons _ (.cons _ (.cons _ (.slnil))))), ?_⟩
    refine h_done (by kernel_rfl) ?_
    refine then_n ?_
    refine wp_ret ?_
    refine x_ret (rs := [.cell 2 48, .cell 3 58]) hst rfl (.agg rfl Ta48 (.tail _ (.tail _ (.tail _ (.head _)))) rfl (.agg rfl Ta58 (.tail _ (.tail _ (.head _))) rfl (.nil))) ?_
    first | exact ⟨_, _, _, _, _, _, _, _, _, _, _, _, _, rfl, by grind, by grind, by grind, hst.fact.1.2⟩ | exact ⟨_, _, _, _, _, _, _, _, _, _, _, _, _, rfl, by grind, by grind, by grind, (ERep.of_sl (Sl.of_flat hst.fact.1.1.1 hst.fact.1.1.2 hl hcc))⟩
  try simp at hc1
  try (have hz := hb1; simp [hc1] at hz)
  refine l_off hst rfl rfl rfl (by decide) rfl rfl ?_
  clear hst; intro a hst
  refine l_off hst rfl rfl rfl (by decide) rfl rfl ?_
  clear hst; intro a hst
  refine l_off hst rfl rfl rfl (by decide) rfl rfl ?_
  clear hst; intro a hst
  refine l_op rfl (r_pick hst rfl rfl rfl ?_)
  clear hst; intro a hst
  refine wpList_nil ?_
  refine then_n ?_
  refine x_cond_f hst rfl ?_
  refine wp_exit ?_
  refine then_x ?_
  refine then_x ?_
  refine inb_hit ?_
  refine then_n ?_
  refine wp_seq ?_
  refine wp_seq ?_
  refine wp_region_lit ?_
  refine l_op rfl (r_move hst rfl rfl ?_)
  clear hst; intro a hst
  refine l_op rfl (r_lensl hst rfl Tu56 rfl ?_)
  clear hst; intro a hst
  refine l_op rfl (r_bin hst rfl rfl rfl rfl rfl ?_)
  clear hst; intro a hst
  refine wpList_nil ?_
  refine then_n ?_
  refine x_cond hst rfl (fun hc4 => ?_) (fun hc4 => ?_)
  · try simp at hc4
    try (have hz := hb1; simp [hc4] at hz)
    refine wp_seq ?_
    refine x_drawh (by kernel_rfl) hst (.cons_cons _ (.cons_cons _ (.cons _ (.cons _ (.slnil))))) ?_
    clear hst; intro w hst
    refine h_take (i := 0) hst (.cons_cons _ (.cons_cons _ (.cons _ (.cons _ (.slnil))))) rfl rfl rfl rfl (by kernel_rfl) (by kernel_rfl) (by kernel_rfl) (fun _ _ _ h => h) (fun _ _ _ _ hst => q_loada hst rfl Ta48 (.tail _ (.head _)) (.cons rfl (.cons rfl (.cons rfl (.cons rfl (.cons rfl (.cons rfl (.nil))))))) rfl) ?_
    clear hst; intro a hst
    refine h_take (i := 1) hst (.cons_cons _ (.cons_cons _ (.cons _ (.cons _ (.slnil))))) rfl rfl rfl rfl (by kernel_rfl) (by kernel_rfl) (by kernel_rfl) (fun _ _ _ h => h) (fun _ _ _ _ hst => q_loada hst rfl Ta58 (.head _) (.cons rfl (.cons rfl (.cons rfl (.cons rfl (.cons rfl (.cons rfl (.nil))))))) rfl) ?_
    clear hst; intro a hst
    refine h_one (i := 2) (by kernel_rfl) rfl rfl (r_store hst rfl rfl rfl Tsz48 rfl (.tail (.tail (.tail (.head (.here (.here (.here (.here (.here (.here (.nil (Nat.zero_le _)))))))))))) ?_)
    clear hst; intro w hst
    refine ⟨hst.held (.cons_cons _ (.cons_cons _ (.cons _ (.cons _ (.slnil))))), ?_⟩
    refine h_one (i := 3) (by kernel_rfl) rfl rfl (r_store hst rfl rfl rfl Tsz58 rfl (.tail (.tail (.head (.here (.here (.here (.here (.here (.here (.nil (Nat.zero_le _))))))))))) ?_)
    clear hst; intro w hst
    refine ⟨hst.held (.cons_cons _ (.cons_cons _ (.cons _ (.cons _ (.slnil))))), ?_⟩
    refine h_done (by kernel_rfl) ?_
    refine then_n ?_
    refine wp_ret ?_
    refine then_r ?_
    refine x_ret (rs := [.cell 2 48, .cell 3 58]) hst rfl (.agg rfl Ta48 (.tail _ (.tail _ (.tail _ (.head _)))) rfl (.agg rfl Ta58 (.tail _ (.tail _ (.head _))) rfl (.nil))) ?_
    first | exact ⟨_, _, _, _, _, _, _, _, _, _, _, _, _, rfl, by grind, by grind, by grind, hst.fact.1.2⟩ | exact ⟨_, _, _, _, _, _, _, _, _, _, _, _, _, rfl, by grind, by grind, by grind, (ERep.of_sl (Sl.of_flat hst.fact.1.1.1 hst.fact.1.1.2 hl hcc))⟩
  try simp at hc4
  try (have hz := hb1; simp [hc4] at hz)
  refine wp_skip ?_
  refine then_n ?_
  refine wp_seq ?_
  refine x_drawh (by kernel_rfl) hst (.cons_cons _ (.cons_cons _ (.cons _ (.cons _ (.slnil))))) ?_
  clear hst; intro w hst
  refine h_take (i := 0) hst (.cons_cons _ (.cons_cons _ (.cons _ (.cons _ (.slnil))))) rfl rfl rfl rfl (by kernel_rfl) (by kernel_rfl) (by kernel_rfl) (fun _ _ _ h => h) (fun _ _ _ _ hst => q_loada hst rfl Ta48 (.tail _ (.head _)) (.cons rfl (.cons rfl (.cons rfl (.cons rfl (.cons rfl (.cons rfl (.nil))))))) rfl) ?_
  clear hst; intro a hst
  refine h_take (i := 1) hst (.cons_cons _ (.cons_cons _ (.cons _ (.cons _ (.slnil))))) rfl rfl rfl rfl (by kernel_rfl) (by kernel_rfl) (by kernel_rfl) (fun _ _ _ h => h) (fun _ _ _ _ hst => q_move hst rfl) ?_
  clear hst; intro a hst
  refine h_take (i := 2) hst (.cons_cons _ (.cons_cons _ (.cons _ (.cons _ (.slnil))))) rfl rfl rfl rfl (by kernel_rfl) (by kernel_rfl) (by kernel_rfl) (fun _ _ _ h => h) (fun _ _ _ _ hst => q_fieldAddr hst rfl Tf58_4) ?_
  clear hst; intro a hst
  refine h_take (i := 3) hst (.cons_cons _ (.cons_cons _ (.cons _ (.cons _ (.slnil))))) rfl rfl rfl rfl (by kernel_rfl) (by kernel_rfl) (by kernel_rfl) (fun _ _ _ h => h) (fun _ _ _ _ hst => q_loada hst rfl Ta28 (.head _) (.cons rfl (.cons rfl (.nil))) rfl) ?_
  clear hst; intro a hst
  refine h_take (i := 4) hst (.cons_cons _ (.cons_cons _ (.cons _ (.cons _ (.slnil))))) rfl rfl rfl rfl (by kernel_rfl) (by kernel_rfl) (by kernel_rfl) (fun _ _ _ h => h) (fun _ _ _ _ hst => q_build (ps := [(0, (Operand.const (Value.int IntKind.i64 4))), (3, (Operand.tmp 40)), (4, (Operand.tmp 42))]) hst Tso58 Tz58 (.cons Tf58_0 rfl rfl (.here (.nil (Nat.zero_le _))) (.cons Tf58_3 rfl rfl (.there (.there (.there (.here (.nil (Nat.zero_le _)))))) (.cons Tf58_4 rfl rfl (.there (.there (.there (.there (.here (.here (.nil (Nat.zero_le _)))))))) (.nil))))) ?_
  clear hst; intro a hst
  refine h_one (i := 5) (by kernel_rfl) rfl rfl (r_store hst rfl rfl rfl Tsz48 rfl (.tail (.tail (.tail (.head (.here (.here (.here (.here (.here (.here (.nil (Nat.zero_le _)))))))))))) ?_)
  clear hst; intro w hst
  refine ⟨hst.held (.cons_cons _ (.cons_cons _ (.cons _ (.cons _ (.slnil))))), ?_⟩
  refine h_one (i := 6) (by kernel_rfl) rfl rfl (r_store hst rfl rfl rfl Tsz58 rfl (.tail (.tail (.head (.here (.here (.here (.here (.here (.here (.nil (Nat.zero_le _))))))))))) ?_)
  clear hst; intro w hst
  refine ⟨hst.held (.cons_cons _ (.cons_cons _ (.cons _ (.cons _ (.slnil))))), ?_⟩
  refine h_done (by kernel_rfl) ?_
  refine then_n ?_
  refine wp_ret ?_
  refine x_ret (rs := [.cell 2 48, .cell 3 58]) hst rfl (.agg rfl Ta48 (.tail _ (.tail _ (.tail _ (.head _)))) rfl (.agg rfl Ta58 (.tail _ (.tail _ (.head _))) rfl (.nil))) ?_
  first | exact ⟨_, _, _, _, _, _, _, _, _, _, _, _, _, rfl, by grind, by grind, by grind, hst.fact.1.2⟩ | exact ⟨_, _, _, _, _, _, _, _, _, _, _, _, _, rfl, by grind, by grind, by grind, (ERep.of_sl (Sl.of_flat hst.fact.1.1.1 hst.fact.1.1.2 hl hcc))⟩

/-- What holds at the head of the loop over operators. -/
def InvRank (w0 : World) (U0 : Mk) (A : Option Addr) (n c : Nat) (i d : Int) (b : Bool) (r : Int) (g2 g3 g4 g5 : Nat) (mz : Nat) (a : Act) (w : World) : Prop :=
  ∃ (U : Mk) (i' x' y' : Int) (b' : Bool) (k m p q : Int) (s : ByteArray) (B : Option Addr) (l cc : Nat) (t : ExT),
    Sta w0 U0 70 [(1, .int .i64 r), (4, .pointer (some ⟨g2, 0, none⟩)), (5, .pointer (some ⟨g3, 0, none⟩)), (6, .pointer (some ⟨g4, 0, none⟩)), (7, .pointer (some ⟨g5, 0, none⟩))] [⟨g5, 58, [.int .i64 k, .string s, .int .i64 m, .slice B l cc, .int .i64 p, .int .i64 q]⟩, ⟨g4, 48, [.slice A n c, .int .i64 i', .int .i64 d, .bool b', .int .i64 x', .int .i64 y']⟩, ⟨g3, 58, [.int .i64 0, .string ⟨#[]⟩, .int .i64 0, .slice none 0 0, .int .i64 0, .int .i64 0]⟩, ⟨g2, 48, [.slice none 0 0, .int .i64 0, .int .i64 0, .bool false, .int .i64 0, .int .i64 0]⟩] [] (fun w U => ERep w U [.int .i64 k, .string s, .int .i64 m, .slice B l cc, .int .i64 p, .int .i64 q] t ∧ Toks A n w U) a w U ∧
    i ≤ i' ∧ i' ≤ n ∧ (b' = true ∨ (b = false ∧ i < i')) ∧ mz = mu n i' b'

theorem rank_c {A : Option Addr} {n c : Nat} (hn : n ≤ 1000000) (mm : Nat) (r : Int) (hr1 : 1 ≤ r) (hr5 : r ≤ 5) (hap : SExp 81 A n c mm) (hrk : r ≤ 4 → SRank A n c mm (r + 1)) (ih : ∀ m, m < mm → ∀ k, 1 ≤ k → k ≤ 5 → SRank A n c m k) {w : World} {U : Mk} (i d x y : Int) (b : Bool) (h0 : 0 ≤ i) (hin : i ≤ n) (hd0 : 0 ≤ d) (hd : d ≤ 40) (hmu : mu n i b ≤ mm) (hT : Toks A n w U) :
    CallsS Tryz.prog 64 [.agg #[.slice A n c, .int .i64 i, .int .i64 d, .bool b, .int .i64 x, .int .i64 y], .int .i64 r] w U (RExp A n c i d b) := by
  refine x_enter (F := Toks A n) (n := 70) Tryz.func64 rfl rfl (by simp) (.cons (d := 0) rfl (.cons (d := 1) rfl (.nil))) (Toks.mono A n) (hT) ?_
  intro a hst
  refine wp_seq ?_
  refine wp_region_lit ?_
  refine l_op rfl (r_box hst rfl rfl rfl ?_)
  clear hst; intro a w g1 hst
  refine l_op rfl (r_alloc hst Tz48 rfl ?_)
  clear hst; intro a w g2 hst
  refine l_op rfl (r_alloc hst Tz58 rfl ?_)
  clear hst; intro a w g3 hst
  refine wpList_nil ?_
  refine then_n ?_
  refine wp_seq ?_
  refine wp_seq ?_
  refine wp_region_lit ?_
  refine l_op rfl (r_move hst rfl rfl ?_)
  clear hst; intro a hst
  refine l_op rfl (r_bin hst rfl rfl rfl rfl rfl ?_)
  clear hst; intro a hst
  refine wpList_nil ?_
  refine then_n ?_
  refine x_cond hst rfl (fun hc1 => ?_) (fun hc1 => ?_)
  · try simp at hc1
    try (have hz := hb1; simp [hc1] at hz)
    refine wp_seq ?_
    refine wp_region_lit ?_
    refine l_op rfl (r_loada hst rfl Ta48 (.tail _ (.tail _ (.head _))) (.cons rfl (.cons rfl (.cons rfl (.cons rfl (.cons rfl (.cons rfl (.nil))))))) rfl rfl ?_)
    clear hst; intro a hst
    refine l_op rfl (r_call (xs := [(Operand.tmp 14)]) hst rfl Ten81 (hap _ _ _ _ _ _ _ (by omega) (by omega) (by omega) (by omega) hmu (by first | exact hst.fact | exact hst.fact.2 | exact hst.fact.2.2 | exact hst.fact.2.2.2 | exact hst.fact.2.2.2.2)) rfl ?_)
    clear hst; rintro a _ w U ⟨i9, b9, x9, y9, k9, m9, p9, q9, s9, B9, l9, c9, t9, rfl, h9a, h9b, h9c, h9⟩ hst
    have hst := hst.addFact (ERep.mono _ _) h9
    refine l_op rfl (r_extract hst rfl rfl rfl ?_)
    clear hst; intro a hst
    refine l_op rfl (r_extract hst rfl rfl rfl ?_)
    clear hst; intro a hst
    refine l_op rfl (r_store hst rfl rfl rfl Tsz48 rfl (.tail (.head (.here (.here (.here (.here (.here (.here (.nil (Nat.zero_le _)))))))))) ?_)
    clear hst; intro w hst
    refine l_op rfl (r_store hst rfl rfl rfl Tsz58 rfl (.head (.here (.here (.here (.here (.here (.here (.nil (Nat.zero_le _))))))))) ?_)
    clear hst; intro w hst
    refine wpList_nil ?_
    refine then_n ?_
    refine wp_ret ?_
    refine then_r ?_
    refine x_ret (rs := [.cell 4 48, .cell 5 58]) hst rfl (.agg rfl Ta48 (.tail _ (.head _)) rfl (.agg rfl Ta58 (.head _) rfl (.nil))) ?_
    first | exact ⟨_, _, _, _, _, _, _, _, _, _, _, _, _, rfl, by grind, by grind, by grind, hst.fact.1⟩
  try simp at hc1
  try (have hz := hb1; simp [hc1] at hz)
  refine wp_skip ?_
  refine then_n ?_
  refine wp_seq ?_
  refine wp_region_lit ?_
  refine l_op rfl (r_loada hst rfl Ta48 (.tail _ (.tail _ (.head _))) (.cons rfl (.cons rfl (.cons rfl (.cons rfl (.cons rfl (.cons rfl (.nil))))))) rfl rfl ?_)
  clear hst; intro a hst
  refine l_op rfl (r_move hst rfl rfl ?_)
  clear hst; intro a hst
  refine l_op rfl (r_bin hst rfl rfl rfl rfl rfl ?_)
  clear hst; intro a hst
  rw [wrap_in _ (by omega) (by omega)] at hst
  refine l_op rfl (r_call (xs := [(Operand.tmp 19), (Operand.tmp 21)]) hst rfl Ten64 (hrk (by omega) _ _ _ _ _ _ _ (by omega) (by omega) (by omega) (by omega) hmu (by first | exact hst.fact | exact hst.fact.2 | exact hst.fact.2.2 | exact hst.fact.2.2.2 | exact hst.fact.2.2.2.2)) rfl ?_)
  clear hst; rintro a _ w U ⟨i9, b9, x9, y9, k9, m9, p9, q9, s9, B9, l9, c9, t9, rfl, h9a, h9b, h9c, h9⟩ hst
  have hst := hst.addFact (ERep.mono _ _) h9
  refine l_op rfl (r_move hst rfl rfl ?_)
  clear hst; intro a hst
  refine l_op rfl (r_extract hst rfl rfl rfl ?_)
  clear hst; intro a hst
  refine l_op rfl (r_extract hst rfl rfl rfl ?_)
  clear hst; intro a hst
  refine l_op rfl (r_alloc hst Tz48 rfl ?_)
  clear hst; intro a w g4 hst
  refine l_op rfl (r_alloc hst Tz58 rfl ?_)
  clear hst; intro a w g5 hst
  refine l_op rfl (r_store hst rfl rfl rfl Tsz48 rfl (.tail (.head (.here (.here (.here (.here (.here (.here (.nil (Nat.zero_le _)))))))))) ?_)
  clear hst; intro w hst
  refine l_op rfl (r_store hst rfl rfl rfl Tsz58 rfl (.head (.here (.here (.here (.here (.here (.here (.nil (Nat.zero_le _))))))))) ?_)
  clear hst; intro w hst
  refine wpList_nil ?_
  refine then_n ?_
  refine wp_block ?_
  have hst := ((hst.keep (ds := [1, 4, 5, 6, 7]) (.cons rfl (.cons rfl (.cons rfl (.cons rfl (.cons rfl (.nil))))))).drop (.cons_cons _ (.cons_cons _ (.cons_cons _ (.cons_cons _ (.cons _ (.slnil)))))))
  refine wp_loop_ghost (InvRank _ _ A n c i d b r g2 g3 g4 g5) (mu n i9 b9) ⟨_, _, _, _, _, _, _, _, _, _, _, _, _, _, hst, by omega, by omega, h9c, rfl⟩ ?_
  clear hst
  rintro mz a w ⟨U, i', x', y', b', k, m, p, q, s, B, l, cc, t, hst, hi1, hi2, hbb, rfl⟩
  refine wp_block ?_
  refine wp_seq ?_
  refine wp_region_lit ?_
  refine l_op rfl (r_loada hst rfl Ta48 (.tail _ (.head _)) (.cons rfl (.cons rfl (.cons rfl (.cons rfl (.cons rfl (.cons rfl (.nil))))))) rfl rfl ?_)
  clear hst; intro a hst
  refine l_op rfl (r_call (xs := [(Operand.tmp 25)]) hst rfl Ten12 (now_c _ _ _ _ _ (by omega) hn (by first | exact hst.fact | exact hst.fact.2 | exact hst.fact.2.2 | exact hst.fact.2.2.2 | exact hst.fact.2.2.2.2)) rfl ?_)
  clear hst; rintro a _ w U ⟨k1, m1, p1, q1, s1, rfl, hk1⟩ hst
  refine l_op rfl (r_alloc hst Tz50 rfl ?_)
  clear hst; intro a w g6 hst
  refine l_op rfl (r_store hst rfl rfl rfl Tsz50 rfl (.head (.here (.here (.here (.here (.here (.nil (Nat.zero_le _)))))))) ?_)
  clear hst; intro w hst
  refine wpList_nil ?_
  refine then_n ?_
  refine wp_seq ?_
  refine wp_seq ?_
  refine wp_region_lit ?_
  refine l_op rfl (r_fieldAddr hst rfl Tf48_3 rfl ?_)
  clear hst; intro a hst
  refine l_op rfl (r_loads hst rfl Ts4 (.tail _ (.tail _ (.head _))) rfl rfl ?_)
  clear hst; intro a hst
  refine l_op rfl (r_move hst rfl rfl ?_)
  clear hst; intro a hst
  refine hst.split (t := 29) rfl (fun hc2 hst => ?_) (fun hc2 hst => ?_)
  · try simp at hc2
    try (have hz := hb1; simp [hc2] at hz)
    refine l_off hst rfl rfl rfl (by decide) rfl rfl ?_
    clear hst; intro a hst
    refine l_off hst rfl rfl rfl (by decide) rfl rfl ?_
    clear hst; intro a hst
    refine l_off hst rfl rfl rfl (by decide) rfl rfl ?_
    clear hst; intro a hst
    refine l_op rfl (r_pick hst rfl rfl rfl ?_)
    clear hst; intro a hst
    refine l_op rfl (r_move hst rfl rfl ?_)
    clear hst; intro a hst
    refine l_off hst rfl rfl rfl (by decide) rfl rfl ?_
    clear hst; intro a hst
    refine l_off hst rfl rfl rfl (by decide) rfl rfl ?_
    clear hst; intro a hst
    refine l_off hst rfl rfl rfl (by decide) rfl rfl ?_
    clear hst; intro a hst
    refine l_off hst rfl rfl rfl (by decide) rfl rfl ?_
    clear hst; intro a hst
    refine l_off hst rfl rfl rfl (by decide) rfl rfl ?_
    clear hst; intro a hst
    refine l_op rfl (r_pick hst rfl rfl rfl ?_)
    clear hst; intro a hst
    refine wpList_nil ?_
    refine then_n ?_
    refine x_cond_t hst rfl ?_
    refine wp_seq ?_
    refine x_drawh (by kernel_rfl) hst (.cons _ (.cons_cons _ (.cons_cons _ (.cons _ (.cons _ (.slnil)))))) ?_
    clear hst; intro w hst
    refine h_take (i := 0) hst (.cons _ (.cons_cons _ (.cons_cons _ (.cons _ (.cons _ (.slnil)))))) rfl rfl rfl rfl (by kernel_rfl) (by kernel_rfl) (by kernel_rfl) (fun _ _ _ h => h) (fun _ _ _ _ hst => q_loada hst rfl Ta48 (.tail _ (.head _)) (.cons rfl (.cons rfl (.cons rfl (.cons rfl (.cons rfl (.cons rfl (.nil))))))) rfl) ?_
    clear hst; intro a hst
    refine h_take (i := 1) hst (.cons _ (.cons_cons _ (.cons_cons _ (.cons _ (.cons _ (.slnil)))))) rfl rfl rfl rfl (by kernel_rfl) (by kernel_rfl) (by kernel_rfl) (fun _ _ _ h => h) (fun _ _ _ _ hst => q_loada hst rfl Ta58 (.head _) (.cons rfl (.cons rfl (.cons rfl (.cons rfl (.cons rfl (.cons rfl (.nil))))))) rfl) ?_
    clear hst; intro a hst
    refine h_one (i := 2) (by kernel_rfl) rfl rfl (r_store hst rfl rfl rfl Tsz48 rfl (.tail (.tail (.tail (.tail (.head (.here (.here (.here (.here (.here (.here (.nil (Nat.zero_le _))))))))))))) ?_)
    clear hst; intro w hst
    refine ⟨hst.held (.cons _ (.cons_cons _ (.cons_cons _ (.cons _ (.cons _ (.slnil)))))), ?_⟩
    refine h_one (i := 3) (by kernel_rfl) rfl rfl (r_store hst rfl rfl rfl Tsz58 rfl (.tail (.tail (.tail (.head (.here (.here (.here (.here (.here (.here (.nil (Nat.zero_le _)))))))))))) ?_)
    clear hst; intro w hst
    refine ⟨hst.held (.cons _ (.cons_cons _ (.cons_cons _ (.cons _ (.cons _ (.slnil)))))), ?_⟩
    refine h_done (by kernel_rfl) ?_
    refine then_n ?_
    refine wp_ret ?_
    refine then_r ?_
    refine inb_r ?_
    refine then_r ?_
    refine inb_r ?_
    refine x_ret (rs := [.cell 4 48, .cell 5 58]) hst rfl (.agg rfl Ta48 (.tail _ (.tail _ (.tail _ (.tail _ (.head _))))) rfl (.agg rfl Ta58 (.tail _ (.tail _ (.tail _ (.head _)))) rfl (.nil))) ?_
    first | exact ⟨_, _, _, _, _, _, _, _, _, _, _, _, _, rfl, by grind, by grind, by grind, hst.fact.1⟩
  try simp at hc2
  try (have hz := hb1; simp [hc2] at hz)
  refine l_on hst rfl rfl rfl (r_fieldAddr hst rfl Tf50_0 rfl ?_)
  clear hst; intro a hst
  refine l_on hst rfl rfl rfl (r_loads hst rfl Ts3 (.head _) rfl rfl ?_)
  clear hst; intro a hst
  refine l_on hst rfl rfl rfl (r_bin hst rfl rfl rfl rfl rfl ?_)
  clear hst; intro a hst
  refine l_op rfl (r_pick hst rfl rfl rfl ?_)
  clear hst; intro a hst
  refine l_op rfl (r_move hst rfl rfl ?_)
  clear hst; intro a hst
  refine hst.split (t := 34) rfl (fun hc3 hst => ?_) (fun hc3 hst => ?_)
  · try simp at hc3
    try (have hz := hb1; simp [hc3] at hz)
    refine l_off hst rfl rfl rfl (by decide) rfl rfl ?_
    clear hst; intro a hst
    refine l_off hst rfl rfl rfl (by decide) rfl rfl ?_
    clear hst; intro a hst
    refine l_off hst rfl rfl rfl (by decide) rfl rfl ?_
    clear hst; intro a hst
    refine l_off hst rfl rfl rfl (by decide) rfl rfl ?_
    clear hst; intro a hst
    refine l_off hst rfl rfl rfl (by decide) rfl rfl ?_
    clear hst; intro a hst
    refine l_op rfl (r_pick hst rfl rfl rfl ?_)
    clear hst; intro a hst
    refine wpList_nil ?_
    refine then_n ?_
    refine x_cond_t hst rfl ?_
    refine wp_seq ?_
    refine x_drawh (by kernel_rfl) hst (.cons _ (.cons_cons _ (.cons_cons _ (.cons _ (.cons _ (.slnil)))))) ?_
    clear hst; intro w hst
    refine h_take (i := 0) hst (.cons _ (.cons_cons _ (.cons_cons _ (.cons _ (.cons _ (.slnil)))))) rfl rfl rfl rfl (by kernel_rfl) (by kernel_rfl) (by kernel_rfl) (fun _ _ _ h => h) (fun _ _ _ _ hst => q_loada hst rfl Ta48 (.tail _ (.head _)) (.cons rfl (.cons rfl (.cons rfl (.cons rfl (.cons rfl (.cons rfl (.nil))))))) rfl) ?_
    clear hst; intro a hst
    refine h_take (i := 1) hst (.cons _ (.cons_cons _ (.cons_cons _ (.cons _ (.cons _ (.slnil)))))) rfl rfl rfl rfl (by kernel_rfl) (by kernel_rfl) (by kernel_rfl) (fun _ _ _ h => h) (fun _ _ _ _ hst => q_loada hst rfl Ta58 (.head _) (.cons rfl (.cons rfl (.cons rfl (.cons rfl (.cons rfl (.cons rfl (.nil))))))) rfl) ?_
    clear hst; intro a hst
    refine h_one (i := 2) (by kernel_rfl) rfl rfl (r_store hst rfl rfl rfl Tsz48 rfl (.tail (.tail (.tail (.tail (.head (.here (.here (.here (.here (.here (.here (.nil (Nat.zero_le _))))))))))))) ?_)
    clear hst; intro w hst
    refine ⟨hst.held (.cons _ (.cons_cons _ (.cons_cons _ (.cons _ (.cons _ (.slnil)))))), ?_⟩
    refine h_one (i := 3) (by kernel_rfl) rfl rfl (r_store hst rfl rfl rfl Tsz58 rfl (.tail (.tail (.tail (.head (.here (.here (.here (.here (.here (.here (.nil (Nat.zero_le _)))))))))))) ?_)
    clear hst; intro w hst
    refine ⟨hst.held (.cons _ (.cons_cons _ (.cons_cons _ (.cons _ (.cons _ (.slnil)))))), ?_⟩
    refine h_done (by kernel_rfl) ?_
    refine then_n ?_
    refine wp_ret ?_
    refine then_r ?_
    refine inb_r ?_
    refine then_r ?_
    refine inb_r ?_
    refine x_ret (rs := [.cell 4 48, .cell 5 58]) hst rfl (.agg rfl Ta48 (.tail _ (.tail _ (.tail _ (.tail _ (.head _))))) rfl (.agg rfl Ta58 (.tail _ (.tail _ (.tail _ (.head _)))) rfl (.nil))) ?_
    first | exact ⟨_, _, _, _, _, _, _, _, _, _, _, _, _, rfl, by grind, by grind, by grind, hst.fact.1⟩
  try simp at hc3
  try (have hz := hb1; simp [hc3] at hz)
  refine l_on hst rfl rfl rfl (r_fieldAddr hst rfl Tf50_1 rfl ?_)
  clear hst; intro a hst
  refine l_on hst rfl rfl rfl (r_loads hst rfl Ts9 (.head _) rfl rfl ?_)
  clear hst; intro a hst
  refine l_on hst rfl rfl rfl (r_call (xs := [(Operand.tmp 36)]) hst rfl Ten82 (binds_c _) rfl ?_)
  clear hst; rintro a _ w U ⟨k6, rfl⟩ hst
  refine l_on hst rfl rfl rfl (r_move hst rfl rfl ?_)
  clear hst; intro a hst
  refine l_on hst rfl rfl rfl (r_bin hst rfl rfl rfl rfl rfl ?_)
  clear hst; intro a hst
  refine l_op rfl (r_pick hst rfl rfl rfl ?_)
  clear hst; intro a hst
  refine wpList_nil ?_
  refine then_n ?_
  refine x_cond hst rfl (fun hc4 => ?_) (fun hc4 => ?_)
  · try simp at hc4
    try (have hz := hb1; simp [hc4] at hz)
    refine wp_seq ?_
    refine x_drawh (by kernel_rfl) hst (.cons _ (.cons_cons _ (.cons_cons _ (.cons _ (.cons _ (.slnil)))))) ?_
    clear hst; intro w hst
    refine h_take (i := 0) hst (.cons _ (.cons_cons _ (.cons_cons _ (.cons _ (.cons _ (.slnil)))))) rfl rfl rfl rfl (by kernel_rfl) (by kernel_rfl) (by kernel_rfl) (fun _ _ _ h => h) (fun _ _ _ _ hst => q_loada hst rfl Ta48 (.tail _ (.head _)) (.cons rfl (.cons rfl (.cons rfl (.cons rfl (.cons rfl (.cons rfl (.nil))))))) rfl) ?_
    clear hst; intro a hst
    refine h_take (i := 1) hst (.cons _ (.cons_cons _ (.cons_cons _ (.cons _ (.cons _ (.slnil)))))) rfl rfl rfl rfl (by kernel_rfl) (by kernel_rfl) (by kernel_rfl) (fun _ _ _ h => h) (fun _ _ _ _ hst => q_loada hst rfl Ta58 (.head _) (.cons rfl (.cons rfl (.cons rfl (.cons rfl (.cons rfl (.cons rfl (.nil))))))) rfl) ?_
    clear hst; intro a hst
    refine h_one (i := 2) (by kernel_rfl) rfl rfl (r_store hst rfl rfl rfl Tsz48 rfl (.tail (.tail (.tail (.tail (.head (.here (.here (.here (.here (.here (.here (.nil (Nat.zero_le _))))))))))))) ?_)
    clear hst; intro w hst
    refine ⟨hst.held (.cons _ (.cons_cons _ (.cons_cons _ (.cons _ (.cons _ (.slnil)))))), ?_⟩
    refine h_one (i := 3) (by kernel_rfl) rfl rfl (r_store hst rfl rfl rfl Tsz58 rfl (.tail (.tail (.tail (.head (.here (.here (.here (.here (.here (.here (.nil (Nat.zero_le _)))))))))))) ?_)
    clear hst; intro w hst
    refine ⟨hst.held (.cons _ (.cons_cons _ (.cons_cons _ (.cons _ (.cons _ (.slnil)))))), ?_⟩
    refine h_done (by kernel_rfl) ?_
    refine then_n ?_
    refine wp_ret ?_
    refine then_r ?_
    refine inb_r ?_
    refine then_r ?_
    refine inb_r ?_
    refine x_ret (rs := [.cell 4 48, .cell 5 58]) hst rfl (.agg rfl Ta48 (.tail _ (.tail _ (.tail _ (.tail _ (.head _))))) rfl (.agg rfl Ta58 (.tail _ (.tail _ (.tail _ (.head _)))) rfl (.nil))) ?_
    first | exact ⟨_, _, _, _, _, _, _, _, _, _, _, _, _, rfl, by grind, by grind, by grind, hst.fact.1⟩
  try simp at hc4
  try (have hz := hb1; simp [hc4] at hz)
  refine wp_skip ?_
  refine then_n ?_
  refine wp_seq ?_
  refine wp_region_lit ?_
  refine l_op rfl (r_fieldAddr hst rfl Tf48_1 rfl ?_)
  clear hst; intro a hst
  refine l_op rfl (r_loads hst rfl Ts3 (.tail _ (.tail _ (.head _))) rfl rfl ?_)
  clear hst; intro a hst
  refine l_op rfl (r_bin hst rfl rfl rfl rfl rfl ?_)
  clear hst; intro a hst
  rw [wrap_in _ (by omega) (by omega)] at hst
  refine l_op rfl (r_fieldAddr hst rfl Tf48_1 rfl ?_)
  clear hst; intro a hst
  refine l_op rfl (r_store hst rfl rfl rfl Tsz3 rfl (.tail (.tail (.head (.there (.here (.nil (Nat.zero_le _))))))) ?_)
  clear hst; intro w hst
  refine wpList_nil ?_
  refine then_n ?_
  refine wp_seq ?_
  refine wp_region_lit ?_
  refine l_op rfl (r_move hst rfl rfl ?_)
  clear hst; intro a hst
  refine l_op rfl (r_bin hst rfl rfl rfl rfl rfl ?_)
  clear hst; intro a hst
  rw [wrap_in _ (by omega) (by omega)] at hst
  refine l_op rfl (r_assign hst rfl rfl ?_)
  clear hst; intro a hst
  refine wpList_nil ?_
  refine then_n ?_
  refine wp_seq ?_
  refine wp_seq ?_
  refine wp_region_lit ?_
  refine l_op rfl (r_move hst rfl rfl ?_)
  clear hst; intro a hst
  refine l_op rfl (r_bin hst rfl rfl rfl rfl rfl ?_)
  clear hst; intro a hst
  refine wpList_nil ?_
  refine then_n ?_
  refine x_cond hst rfl (fun hc5 => ?_) (fun hc5 => ?_)
  · try simp at hc5
    try (have hz := hb1; simp [hc5] at hz)
    refine wp_region_lit ?_
    refine l_op rfl (r_assign hst rfl rfl ?_)
    clear hst; intro a hst
    refine wpList_nil ?_
    refine then_n ?_
    refine wp_seq ?_
    refine wp_region_lit ?_
    refine l_op rfl (r_loada hst rfl Ta48 (.tail _ (.tail _ (.head _))) (.cons rfl (.cons rfl (.cons rfl (.cons rfl (.cons rfl (.cons rfl (.nil))))))) rfl rfl ?_)
    clear hst; intro a hst
    refine l_op rfl (r_move hst rfl rfl ?_)
    clear hst; intro a hst
    refine l_op rfl (r_call (xs := [(Operand.tmp 52), (Operand.tmp 53)]) hst rfl Ten64 (ih _ (Nat.lt_of_lt_of_le (mu_lt (by grind) (by omega) (by omega) (by grind)) hmu) _ (by omega) (by omega) _ _ _ _ _ _ _ (by omega) (by omega) (by omega) (by omega) (Nat.le_refl _) (by first | exact hst.fact | exact hst.fact.2 | exact hst.fact.2.2 | exact hst.fact.2.2.2 | exact hst.fact.2.2.2.2)) rfl ?_)
    clear hst; rintro a _ w U ⟨i10, b10, x10, y10, k10, m10, p10, q10, s10, B10, l10, c10, t10, rfl, h10a, h10b, h10c, h10⟩ hst
    have hst := hst.addFact (ERep.mono _ _) h10
    refine l_op rfl (r_move hst rfl rfl ?_)
    clear hst; intro a hst
    refine l_op rfl (r_extract hst rfl rfl rfl ?_)
    clear hst; intro a hst
    refine l_op rfl (r_extract hst rfl rfl rfl ?_)
    clear hst; intro a hst
    refine l_op rfl (r_alloc hst Tz48 rfl ?_)
    clear hst; intro a w g7 hst
    refine l_op rfl (r_alloc hst Tz58 rfl ?_)
    clear hst; intro a w g8 hst
    refine l_op rfl (r_store hst rfl rfl rfl Tsz48 rfl (.tail (.head (.here (.here (.here (.here (.here (.here (.nil (Nat.zero_le _)))))))))) ?_)
    clear hst; intro w hst
    refine l_op rfl (r_store hst rfl rfl rfl Tsz58 rfl (.head (.here (.here (.here (.here (.here (.here (.nil (Nat.zero_le _))))))))) ?_)
    clear hst; intro w hst
    refine wpList_nil ?_
    refine then_n ?_
    refine wp_seq ?_
    refine wp_region_lit ?_
    refine l_op rfl (r_loada hst rfl Ta48 (.tail _ (.head _)) (.cons rfl (.cons rfl (.cons rfl (.cons rfl (.cons rfl (.cons rfl (.nil))))))) rfl rfl ?_)
    clear hst; intro a hst
    refine l_op rfl (r_store hst rfl rfl rfl Tsz48 rfl (.tail (.tail (.tail (.tail (.head (.here (.here (.here (.here (.here (.here (.nil (Nat.zero_le _))))))))))))) ?_)
    clear hst; intro w hst
    refine wpList_nil ?_
    refine then_n ?_
    refine wp_seq ?_
    refine wp_region_lit ?_
    refine l_op rfl (r_fieldAddr hst rfl Tf50_1 rfl ?_)
    clear hst; intro a hst
    refine l_op rfl (r_loads hst rfl Ts9 (.tail _ (.tail _ (.head _))) rfl rfl ?_)
    clear hst; intro a hst
    refine l_op rfl (r_loada hst rfl Ta58 (.tail _ (.tail _ (.tail _ (.head _)))) (.cons rfl (.cons rfl (.cons rfl (.cons rfl (.cons rfl (.cons rfl (.nil))))))) rfl rfl ?_)
    clear hst; intro a hst
    refine l_op rfl (r_loada hst rfl Ta58 (.head _) (.cons rfl (.cons rfl (.cons rfl (.cons rfl (.cons rfl (.cons rfl (.nil))))))) rfl rfl ?_)
    clear hst; intro a hst
    refine l_op rfl (r_sliceN (m := 2) (ps := [(0, (Operand.tmp 60)), (1, (Operand.tmp 61))]) hst Tu56 Tsz58 Tz58 (zs := [.int .i64 0, .string ⟨#[]⟩, .int .i64 0, .slice none 0 0, .int .i64 0, .int .i64 0, .int .i64 0, .string ⟨#[]⟩, .int .i64 0, .slice none 0 0, .int .i64 0, .int .i64 0]) rfl rfl (by decide) (by decide) (.cons rfl rfl rfl rfl (.here (.here (.here (.here (.here (.here (.nil (Nat.zero_le _)))))))) (.cons rfl rfl rfl rfl (.there (.there (.there (.there (.there (.there (.here (.here (.here (.here (.here (.here (.nil (Nat.zero_le _)))))))))))))) (.nil))) rfl ?_)
    clear hst; intro a w g9 hst
    refine l_op rfl (r_fieldAddr hst rfl Tf50_3 rfl ?_)
    clear hst; intro a hst
    refine l_op rfl (r_loada hst rfl Ta28 (.tail _ (.tail _ (.tail _ (.head _)))) (.cons rfl (.cons rfl (.nil))) rfl rfl ?_)
    clear hst; intro a hst
    refine l_op rfl (r_build (ps := [(0, (Operand.const (Value.int IntKind.i64 5))), (1, (Operand.tmp 59)), (3, (Operand.tmp 62)), (4, (Operand.tmp 64))]) hst Tso58 Tz58 (.cons Tf58_0 rfl rfl (.here (.nil (Nat.zero_le _))) (.cons Tf58_1 rfl rfl (.there (.here (.nil (Nat.zero_le _)))) (.cons Tf58_3 rfl rfl (.there (.there (.there (.here (.nil (Nat.zero_le _)))))) (.cons Tf58_4 rfl rfl (.there (.there (.there (.there (.here (.here (.nil (Nat.zero_le _)))))))) (.nil))))) rfl ?_)
    clear hst; intro a hst
    refine l_op rfl (r_store hst rfl rfl rfl Tsz58 rfl (.tail (.tail (.tail (.tail (.head (.here (.here (.here (.here (.here (.here (.nil (Nat.zero_le _))))))))))))) ?_)
    clear hst; intro w hst
    obtain ⟨U, hext, hcont, hst⟩ := hst.settle_ (.head)
    have hfl := Flat.snoc (K := kE) (Flat.one (K := kE) hst.fact.2.1) hst.fact.1
    have hst := hst.addFact (ERep.mono _ _) (ERep.of_sl (kd := 5) (nm := s1) (m := 0) (x := p1) (y := q1) (Sl.of_flat (hcont 2 2) hfl rfl (by decide)))
    refine wpList_nil ?_
    refine then_n ?_
    refine wp_seq ?_
    refine wp_region_lit ?_
    refine l_op rfl (r_move hst rfl rfl ?_)
    clear hst; intro a hst
    refine l_op rfl (r_bin hst rfl rfl rfl rfl rfl ?_)
    clear hst; intro a hst
    refine wpList_nil ?_
    refine then_n ?_
    refine x_cond hst rfl (fun hc6 => ?_) (fun hc6 => ?_)
    · try simp at hc6
      try (have hz := hb1; simp [hc6] at hz)
      refine wp_seq ?_
      refine x_drawh (by kernel_rfl) hst (.cons _ (.cons _ (.cons _ (.cons_cons _ (.cons_cons _ (.cons _ (.cons _ (.slnil)))))))) ?_
      clear hst; intro w hst
      refine h_take (i := 0) hst (.cons _ (.cons _ (.cons _ (.cons_cons _ (.cons_cons _ (.cons _ (.cons _ (.slnil)))))))) rfl rfl rfl rfl (by kernel_rfl) (by kernel_rfl) (by kernel_rfl) (fun _ _ _ h => h) (fun _ _ _ _ hst => q_loada hst rfl Ta48 (.tail _ (.head _)) (.cons rfl (.cons rfl (.cons rfl (.cons rfl (.cons rfl (.cons rfl (.nil))))))) rfl) ?_
      clear hst; intro a hst
      refine h_take (i := 1) hst (.cons _ (.cons _ (.cons _ (.cons_cons _ (.cons_cons _ (.cons _ (.cons _ (.slnil)))))))) rfl rfl rfl rfl (by kernel_rfl) (by kernel_rfl) (by kernel_rfl) (fun _ _ _ h => h) (fun _ _ _ _ hst => q_loada hst rfl Ta58 (.head _) (.cons rfl (.cons rfl (.cons rfl (.cons rfl (.cons rfl (.cons rfl (.nil))))))) rfl) ?_
      clear hst; intro a hst
      refine h_one (i := 2) (by kernel_rfl) rfl rfl (r_store hst rfl rfl rfl Tsz48 rfl (.tail (.tail (.tail (.tail (.tail (.tail (.head (.here (.here (.here (.here (.here (.here (.nil (Nat.zero_le _))))))))))))))) ?_)
      clear hst; intro w hst
      refine ⟨hst.held (.cons _ (.cons _ (.cons _ (.cons_cons _ (.cons_cons _ (.cons _ (.cons _ (.slnil)))))))), ?_⟩
      refine h_one (i := 3) (by kernel_rfl) rfl rfl (r_store hst rfl rfl rfl Tsz58 rfl (.tail (.tail (.tail (.tail (.tail (.head (.here (.here (.here (.here (.here (.here (.nil (Nat.zero_le _)))))))))))))) ?_)
      clear hst; intro w hst
      refine ⟨hst.held (.cons _ (.cons _ (.cons _ (.cons_cons _ (.cons_cons _ (.cons _ (.cons _ (.slnil)))))))), ?_⟩
      refine h_done (by kernel_rfl) ?_
      refine then_n ?_
      refine wp_ret ?_
      refine inb_r ?_
      refine then_r ?_
      refine inb_r ?_
      refine x_ret (rs := [.cell 4 48, .cell 5 58]) hst rfl (.agg rfl Ta48 (.tail _ (.tail _ (.tail _ (.tail _ (.tail _ (.tail _ (.head _))))))) rfl (.agg rfl Ta58 (.tail _ (.tail _ (.tail _ (.tail _ (.tail _ (.head _)))))) rfl (.nil))) ?_
      first | exact ⟨_, _, _, _, _, _, _, _, _, _, _, _, _, rfl, by grind, by grind, by grind, hst.fact.1⟩
    try simp at hc6
    try (have hz := hb1; simp [hc6] at hz)
    refine wp_skip ?_
    refine inb_n ?_
    have hst := ((hst.keep (ds := [1, 4, 5, 6, 7]) (.cons rfl (.cons rfl (.cons rfl (.cons rfl (.cons rfl (.nil))))))).drop (.cons _ (.cons _ (.cons _ (.cons_cons _ (.cons_cons _ (.cons_cons _ (.cons_cons _ (.slnil)))))))))
    have hst := hst.newFact (Mono.and (ERep.mono _ _) (Toks.mono A n)) ⟨hst.fact.1, hst.fact.2.2.2⟩
    have hmm : mu n i10 b10 < mu n i' b' := mu_lt (by grind) (by omega) (by omega) (by grind)
    exact then_k ⟨mu n i10 b10, hmm, _, i10, x10, y10, b10, _, _, _, _, _, _, _, _, _, hst, by omega, by omega, by grind, rfl⟩
  try simp at hc5
  try (have hz := hb1; simp [hc5] at hz)
  refine wp_skip ?_
  refine then_n ?_
  refine wp_seq ?_
  refine wp_region_lit ?_
  refine l_op rfl (r_loada hst rfl Ta48 (.tail _ (.tail _ (.head _))) (.cons rfl (.cons rfl (.cons rfl (.cons rfl (.cons rfl (.cons rfl (.nil))))))) rfl rfl ?_)
  clear hst; intro a hst
  refine l_op rfl (r_move hst rfl rfl ?_)
  clear hst; intro a hst
  refine l_op rfl (r_call (xs := [(Operand.tmp 52), (Operand.tmp 53)]) hst rfl Ten64 (ih _ (Nat.lt_of_lt_of_le (mu_lt (by grind) (by omega) (by omega) (by grind)) hmu) _ (by omega) (by omega) _ _ _ _ _ _ _ (by omega) (by omega) (by omega) (by omega) (Nat.le_refl _) (by first | exact hst.fact | exact hst.fact.2 | exact hst.fact.2.2 | exact hst.fact.2.2.2 | exact hst.fact.2.2.2.2)) rfl ?_)
  clear hst; rintro a _ w U ⟨i10, b10, x10, y10, k10, m10, p10, q10, s10, B10, l10, c10, t10, rfl, h10a, h10b, h10c, h10⟩ hst
  have hst := hst.addFact (ERep.mono _ _) h10
  refine l_op rfl (r_move hst rfl rfl ?_)
  clear hst; intro a hst
  refine l_op rfl (r_extract hst rfl rfl rfl ?_)
  clear hst; intro a hst
  refine l_op rfl (r_extract hst rfl rfl rfl ?_)
  clear hst; intro a hst
  refine l_op rfl (r_alloc hst Tz48 rfl ?_)
  clear hst; intro a w g7 hst
  refine l_op rfl (r_alloc hst Tz58 rfl ?_)
  clear hst; intro a w g8 hst
  refine l_op rfl (r_store hst rfl rfl rfl Tsz48 rfl (.tail (.head (.here (.here (.here (.here (.here (.here (.nil (Nat.zero_le _)))))))))) ?_)
  clear hst; intro w hst
  refine l_op rfl (r_store hst rfl rfl rfl Tsz58 rfl (.head (.here (.here (.here (.here (.here (.here (.nil (Nat.zero_le _))))))))) ?_)
  clear hst; intro w hst
  refine wpList_nil ?_
  refine then_n ?_
  refine wp_seq ?_
  refine wp_region_lit ?_
  refine l_op rfl (r_loada hst rfl Ta48 (.tail _ (.head _)) (.cons rfl (.cons rfl (.cons rfl (.cons rfl (.cons rfl (.cons rfl (.nil))))))) rfl rfl ?_)
  clear hst; intro a hst
  refine l_op rfl (r_store hst rfl rfl rfl Tsz48 rfl (.tail (.tail (.tail (.tail (.head (.here (.here (.here (.here (.here (.here (.nil (Nat.zero_le _))))))))))))) ?_)
  clear hst; intro w hst
  refine wpList_nil ?_
  refine then_n ?_
  refine wp_seq ?_
  refine wp_region_lit ?_
  refine l_op rfl (r_fieldAddr hst rfl Tf50_1 rfl ?_)
  clear hst; intro a hst
  refine l_op rfl (r_loads hst rfl Ts9 (.tail _ (.tail _ (.head _))) rfl rfl ?_)
  clear hst; intro a hst
  refine l_op rfl (r_loada hst rfl Ta58 (.tail _ (.tail _ (.tail _ (.head _)))) (.cons rfl (.cons rfl (.cons rfl (.cons rfl (.cons rfl (.cons rfl (.nil))))))) rfl rfl ?_)
  clear hst; intro a hst
  refine l_op rfl (r_loada hst rfl Ta58 (.head _) (.cons rfl (.cons rfl (.cons rfl (.cons rfl (.cons rfl (.cons rfl (.nil))))))) rfl rfl ?_)
  clear hst; intro a hst
  refine l_op rfl (r_sliceN (m := 2) (ps := [(0, (Operand.tmp 60)), (1, (Operand.tmp 61))]) hst Tu56 Tsz58 Tz58 (zs := [.int .i64 0, .string ⟨#[]⟩, .int .i64 0, .slice none 0 0, .int .i64 0, .int .i64 0, .int .i64 0, .string ⟨#[]⟩, .int .i64 0, .slice none 0 0, .int .i64 0, .int .i64 0]) rfl rfl (by decide) (by decide) (.cons rfl rfl rfl rfl (.here (.here (.here (.here (.here (.here (.nil (Nat.zero_le _)))))))) (.cons rfl rfl rfl rfl (.there (.there (.there (.there (.there (.there (.here (.here (.here (.here (.here (.here (.nil (Nat.zero_le _)))))))))))))) (.nil))) rfl ?_)
  clear hst; intro a w g9 hst
  refine l_op rfl (r_fieldAddr hst rfl Tf50_3 rfl ?_)
  clear hst; intro a hst
  refine l_op rfl (r_loada hst rfl Ta28 (.tail _ (.tail _ (.tail _ (.head _)))) (.cons rfl (.cons rfl (.nil))) rfl rfl ?_)
  clear hst; intro a hst
  refine l_op rfl (r_build (ps := [(0, (Operand.const (Value.int IntKind.i64 5))), (1, (Operand.tmp 59)), (3, (Operand.tmp 62)), (4, (Operand.tmp 64))]) hst Tso58 Tz58 (.cons Tf58_0 rfl rfl (.here (.nil (Nat.zero_le _))) (.cons Tf58_1 rfl rfl (.there (.here (.nil (Nat.zero_le _)))) (.cons Tf58_3 rfl rfl (.there (.there (.there (.here (.nil (Nat.zero_le _)))))) (.cons Tf58_4 rfl rfl (.there (.there (.there (.there (.here (.here (.nil (Nat.zero_le _)))))))) (.nil))))) rfl ?_)
  clear hst; intro a hst
  refine l_op rfl (r_store hst rfl rfl rfl Tsz58 rfl (.tail (.tail (.tail (.tail (.head (.here (.here (.here (.here (.here (.here (.nil (Nat.zero_le _))))))))))))) ?_)
  clear hst; intro w hst
  obtain ⟨U, hext, hcont, hst⟩ := hst.settle_ (.head)
  have hfl := Flat.snoc (K := kE) (Flat.one (K := kE) hst.fact.2.1) hst.fact.1
  have hst := hst.addFact (ERep.mono _ _) (ERep.of_sl (kd := 5) (nm := s1) (m := 0) (x := p1) (y := q1) (Sl.of_flat (hcont 2 2) hfl rfl (by decide)))
  refine wpList_nil ?_
  refine then_n ?_
  refine wp_seq ?_
  refine wp_region_lit ?_
  refine l_op rfl (r_move hst rfl rfl ?_)
  clear hst; intro a hst
  refine l_op rfl (r_bin hst rfl rfl rfl rfl rfl ?_)
  clear hst; intro a hst
  refine wpList_nil ?_
  refine then_n ?_
  refine x_cond hst rfl (fun hc7 => ?_) (fun hc7 => ?_)
  · try simp at hc7
    try (have hz := hb1; simp [hc7] at hz)
    refine wp_seq ?_
    refine x_drawh (by kernel_rfl) hst (.cons _ (.cons _ (.cons _ (.cons_cons _ (.cons_cons _ (.cons _ (.cons _ (.slnil)))))))) ?_
    clear hst; intro w hst
    refine h_take (i := 0) hst (.cons _ (.cons _ (.cons _ (.cons_cons _ (.cons_cons _ (.cons _ (.cons _ (.slnil)))))))) rfl rfl rfl rfl (by kernel_rfl) (by kernel_rfl) (by kernel_rfl) (fun _ _ _ h => h) (fun _ _ _ _ hst => q_loada hst rfl Ta48 (.tail _ (.head _)) (.cons rfl (.cons rfl (.cons rfl (.cons rfl (.cons rfl (.cons rfl (.nil))))))) rfl) ?_
    clear hst; intro a hst
    refine h_take (i := 1) hst (.cons _ (.cons _ (.cons _ (.cons_cons _ (.cons_cons _ (.cons _ (.cons _ (.slnil)))))))) rfl rfl rfl rfl (by kernel_rfl) (by kernel_rfl) (by kernel_rfl) (fun _ _ _ h => h) (fun _ _ _ _ hst => q_loada hst rfl Ta58 (.head _) (.cons rfl (.cons rfl (.cons rfl (.cons rfl (.cons rfl (.cons rfl (.nil))))))) rfl) ?_
    clear hst; intro a hst
    refine h_one (i := 2) (by kernel_rfl) rfl rfl (r_store hst rfl rfl rfl Tsz48 rfl (.tail (.tail (.tail (.tail (.tail (.tail (.head (.here (.here (.here (.here (.here (.here (.nil (Nat.zero_le _))))))))))))))) ?_)
    clear hst; intro w hst
    refine ⟨hst.held (.cons _ (.cons _ (.cons _ (.cons_cons _ (.cons_cons _ (.cons _ (.cons _ (.slnil)))))))), ?_⟩
    refine h_one (i := 3) (by kernel_rfl) rfl rfl (r_store hst rfl rfl rfl Tsz58 rfl (.tail (.tail (.tail (.tail (.tail (.head (.here (.here (.here (.here (.here (.here (.nil (Nat.zero_le _)))))))))))))) ?_)
    clear hst; intro w hst
    refine ⟨hst.held (.cons _ (.cons _ (.cons _ (.cons_cons _ (.cons_cons _ (.cons _ (.cons _ (.slnil)))))))), ?_⟩
    refine h_done (by kernel_rfl) ?_
    refine then_n ?_
    refine wp_ret ?_
    refine inb_r ?_
    refine then_r ?_
    refine inb_r ?_
    refine x_ret (rs := [.cell 4 48, .cell 5 58]) hst rfl (.agg rfl Ta48 (.tail _ (.tail _ (.tail _ (.tail _ (.tail _ (.tail _ (.head _))))))) rfl (.agg rfl Ta58 (.tail _ (.tail _ (.tail _ (.tail _ (.tail _ (.head _)))))) rfl (.nil))) ?_
    first | exact ⟨_, _, _, _, _, _, _, _, _, _, _, _, _, rfl, by grind, by grind, by grind, hst.fact.1⟩
  try simp at hc7
  try (have hz := hb1; simp [hc7] at hz)
  refine wp_skip ?_
  refine inb_n ?_
  have hst := ((hst.keep (ds := [1, 4, 5, 6, 7]) (.cons rfl (.cons rfl (.cons rfl (.cons rfl (.cons rfl (.nil))))))).drop (.cons _ (.cons _ (.cons _ (.cons_cons _ (.cons_cons _ (.cons_cons _ (.cons_cons _ (.slnil)))))))))
  have hst := hst.newFact (Mono.and (ERep.mono _ _) (Toks.mono A n)) ⟨hst.fact.1, hst.fact.2.2.2⟩
  have hmm : mu n i10 b10 < mu n i' b' := mu_lt (by grind) (by omega) (by omega) (by grind)
  exact then_k ⟨mu n i10 b10, hmm, _, i10, x10, y10, b10, _, _, _, _, _, _, _, _, _, hst, by omega, by omega, by grind, rfl⟩

theorem expr_c {A : Option Addr} {n c : Nat} (hn : n ≤ 1000000) (mm : Nat) (hr1 : SRank A n c mm 1) (ih : ∀ m, m < mm → SExp 43 A n c m) {w : World} {U : Mk} (i d x y : Int) (b : Bool) (h0 : 0 ≤ i) (hin : i ≤ n) (hd0 : 0 ≤ d) (hd : d ≤ 40) (hmu : mu n i b ≤ mm) (hT : Toks A n w U) :
    CallsS Tryz.prog 43 [.agg #[.slice A n c, .int .i64 i, .int .i64 d, .bool b, .int .i64 x, .int .i64 y]] w U (RExp A n c i d b) := by
  refine x_enter (F := Toks A n) (n := 107) Tryz.func43 rfl rfl (by simp) (.cons (d := 0) rfl (.nil)) (Toks.mono A n) (hT) ?_
  intro a hst
  refine wp_seq ?_
  refine wp_region_lit ?_
  refine l_op rfl (r_box hst rfl rfl rfl ?_)
  clear hst; intro a w g1 hst
  refine l_op rfl (r_alloc hst Tz48 rfl ?_)
  clear hst; intro a w g2 hst
  refine l_op rfl (r_alloc hst Tz58 rfl ?_)
  clear hst; intro a w g3 hst
  refine wpList_nil ?_
  refine then_n ?_
  refine wp_seq ?_
  refine wp_region_lit ?_
  refine l_op rfl (r_loada hst rfl Ta48 (.tail _ (.tail _ (.head _))) (.cons rfl (.cons rfl (.cons rfl (.cons rfl (.cons rfl (.cons rfl (.nil))))))) rfl rfl ?_)
  clear hst; intro a hst
  refine l_op rfl (r_call (xs := [(Operand.tmp 18)]) hst rfl Ten12 (now_c _ _ _ _ _ (by omega) hn (by first | exact hst.fact | exact hst.fact.2 | exact hst.fact.2.2 | exact hst.fact.2.2.2 | exact hst.fact.2.2.2.2)) rfl ?_)
  clear hst; rintro a _ w U ⟨k1, m1, p1, q1, s1, rfl, hk1⟩ hst
  refine l_op rfl (r_fielda hst rfl Tfa50_3 (.cons rfl (.cons rfl (.nil))) rfl rfl ?_)
  clear hst; intro a hst
  refine l_op rfl (r_alloc hst Tz28 rfl ?_)
  clear hst; intro a w g4 hst
  refine l_op rfl (r_store hst rfl rfl rfl Tsz28 rfl (.head (.here (.here (.nil (Nat.zero_le _))))) ?_)
  clear hst; intro w hst
  refine wpList_nil ?_
  refine then_n ?_
  refine wp_seq ?_
  refine wp_region_lit ?_
  refine l_op rfl (r_fieldAddr hst rfl Tf48_2 rfl ?_)
  clear hst; intro a hst
  refine l_op rfl (r_loads hst rfl Ts3 (.tail _ (.tail _ (.tail _ (.head _)))) rfl rfl ?_)
  clear hst; intro a hst
  refine l_op rfl (r_assign hst rfl rfl ?_)
  clear hst; intro a hst
  refine wpList_nil ?_
  refine then_n ?_
  refine wp_seq ?_
  refine wp_region_lit ?_
  refine l_op rfl (r_alloc hst Tz58 rfl ?_)
  clear hst; intro a w g5 hst
  refine wpList_nil ?_
  refine then_n ?_
  refine wp_block ?_
  refine wp_seq ?_
  refine wp_region_lit ?_
  refine l_op rfl (r_fieldAddr hst rfl Tf48_3 rfl ?_)
  clear hst; intro a hst
  refine l_op rfl (r_loads hst rfl Ts4 (.tail _ (.tail _ (.tail _ (.tail _ (.head _))))) rfl rfl ?_)
  clear hst; intro a hst
  refine l_op rfl (r_assign hst rfl rfl ?_)
  clear hst; intro a hst
  refine wpList_nil ?_
  refine then_n ?_
  refine x_cond hst rfl (fun hc1 => ?_) (fun hc1 => ?_)
  · try simp at hc1
    try (have hz := hb1; simp [hc1] at hz)
    refine wp_seq ?_
    refine x_drawh (by kernel_rfl) hst (.cons_cons _ (.cons _ (.cons _ (.cons _ (.cons_cons _ (.slnil)))))) ?_
    clear hst; intro w hst
    refine h_take (i := 0) hst (.cons_cons _ (.cons _ (.cons _ (.cons _ (.cons_cons _ (.slnil)))))) rfl rfl rfl rfl (by kernel_rfl) (by kernel_rfl) (by kernel_rfl) (fun _ _ _ h => h) (fun _ _ _ _ hst => q_loada hst rfl Ta48 (.tail _ (.head _)) (.cons rfl (.cons rfl (.cons rfl (.cons rfl (.cons rfl (.cons rfl (.nil))))))) rfl) ?_
    clear hst; intro a hst
    refine h_take (i := 1) hst (.cons_cons _ (.cons _ (.cons _ (.cons _ (.cons_cons _ (.slnil)))))) rfl rfl rfl rfl (by kernel_rfl) (by kernel_rfl) (by kernel_rfl) (fun _ _ _ h => h) (fun _ _ _ _ hst => q_loada hst rfl Ta58 (.head _) (.cons rfl (.cons rfl (.cons rfl (.cons rfl (.cons rfl (.cons rfl (.nil))))))) rfl) ?_
    clear hst; intro a hst
    refine h_one (i := 2) (by kernel_rfl) rfl rfl (r_store hst rfl rfl rfl Tsz48 rfl (.tail (.tail (.tail (.head (.here (.here (.here (.here (.here (.here (.nil (Nat.zero_le _)))))))))))) ?_)
    clear hst; intro w hst
    refine ⟨hst.held (.cons_cons _ (.cons _ (.cons _ (.cons _ (.cons_cons _ (.slnil)))))), ?_⟩
    refine h_one (i := 3) (by kernel_rfl) rfl rfl (r_store hst rfl rfl rfl Tsz58 rfl (.tail (.tail (.head (.here (.here (.here (.here (.here (.here (.nil (Nat.zero_le _))))))))))) ?_)
    clear hst; intro w hst
    refine ⟨hst.held (.cons_cons _ (.cons _ (.cons _ (.cons _ (.cons_cons _ (.slnil)))))), ?_⟩
    refine h_done (by kernel_rfl) ?_
    refine then_n ?_
    refine wp_ret ?_
    refine inb_r ?_
    refine x_ret (rs := [.cell 2 48, .cell 3 58]) hst rfl (.agg rfl Ta48 (.tail _ (.tail _ (.tail _ (.head _)))) rfl (.agg rfl Ta58 (.tail _ (.tail _ (.head _))) rfl (.nil))) ?_
    exact ⟨_, _, _, _, _, _, _, _, _, _, _, _, _, rfl, by grind, by grind, by grind, ERep.of_sl (args := []) (Sl.nil _ _ _ _ _)⟩
  try simp at hc1
  try (have hz := hb1; simp [hc1] at hz)
  refine wp_seq ?_
  refine wp_region_lit ?_
  refine l_op rfl (r_loada hst rfl Ta48 (.tail _ (.tail _ (.tail _ (.tail _ (.head _))))) (.cons rfl (.cons rfl (.cons rfl (.cons rfl (.cons rfl (.cons rfl (.nil))))))) rfl rfl ?_)
  clear hst; intro a hst
  refine l_op rfl (r_call (xs := [(Operand.tmp 33), (Operand.const (Value.int IntKind.i64 5)), (Operand.const (Value.string { data := #[108, 101, 116] }))]) hst rfl Ten14 (is_c _ _ _ _ _ _ _ (by omega) hn (by first | exact hst.fact | exact hst.fact.2 | exact hst.fact.2.2 | exact hst.fact.2.2.2 | exact hst.fact.2.2.2.2) (by decide)) rfl ?_)
  clear hst; rintro a _ w U ⟨b1, rfl, hb1⟩ hst
  refine l_op rfl (r_assign hst rfl rfl ?_)
  clear hst; intro a hst
  refine wpList_nil ?_
  refine then_n ?_
  refine x_cond hst rfl (fun hc2 => ?_) (fun hc2 => ?_)
  · try simp at hc2
    try (have hz := hb1; simp [hc2] at hz)
    refine wp_seq ?_
    refine wp_region_lit ?_
    refine l_op rfl (r_loada hst rfl Ta48 (.tail _ (.tail _ (.tail _ (.tail _ (.head _))))) (.cons rfl (.cons rfl (.cons rfl (.cons rfl (.cons rfl (.cons rfl (.nil))))))) rfl rfl ?_)
    clear hst; intro a hst
    refine l_op rfl (r_call (xs := [(Operand.tmp 36)]) hst rfl Ten63 (down_c _ _ _ _ _ (by omega) hn (by first | exact hst.fact | exact hst.fact.2 | exact hst.fact.2.2 | exact hst.fact.2.2.2 | exact hst.fact.2.2.2.2) (by omega) (by omega) (by omega)) rfl ?_)
    clear hst; rintro a _ w U ⟨i3, d3, b3, x3, y3, rfl, hd3⟩ hst
    refine l_op rfl (r_call (xs := [(Operand.tmp 37), (Operand.const (Value.int IntKind.i64 2))]) hst rfl Ten40 (name_c _ _ _ _ _ _ (by omega) hn (by first | exact hst.fact | exact hst.fact.2 | exact hst.fact.2.2 | exact hst.fact.2.2.2 | exact hst.fact.2.2.2.2) (by omega) (by decide)) rfl ?_)
    clear hst; rintro a _ w U ⟨i2, b2, x2, y2, s2, rfl, hn2⟩ hst
    refine l_op rfl (r_move hst rfl rfl ?_)
    clear hst; intro a hst
    refine l_op rfl (r_extract hst rfl rfl rfl ?_)
    clear hst; intro a hst
    refine l_op rfl (r_extract hst rfl rfl rfl ?_)
    clear hst; intro a hst
    refine l_op rfl (r_alloc hst Tz48 rfl ?_)
    clear hst; intro a w g6 hst
    refine l_op rfl (r_store hst rfl rfl rfl Tsz48 rfl (.head (.here (.here (.here (.here (.here (.here (.nil (Nat.zero_le _))))))))) ?_)
    clear hst; intro w hst
    refine l_op rfl (r_assign hst rfl rfl ?_)
    clear hst; intro a hst
    refine wpList_nil ?_
    refine then_n ?_
    refine wp_seq ?_
    refine wp_region_lit ?_
    refine l_op rfl (r_move hst rfl rfl ?_)
    clear hst; intro a hst
    refine l_op rfl (r_loada hst rfl Ta28 (.tail _ (.tail _ (.head _))) (.cons rfl (.cons rfl (.nil))) rfl rfl ?_)
    clear hst; intro a hst
    refine l_op rfl (r_build (ps := [(0, (Operand.const (Value.int IntKind.i64 8))), (1, (Operand.tmp 41)), (4, (Operand.tmp 42))]) hst Tso58 Tz58 (.cons Tf58_0 rfl rfl (.here (.nil (Nat.zero_le _))) (.cons Tf58_1 rfl rfl (.there (.here (.nil (Nat.zero_le _)))) (.cons Tf58_4 rfl rfl (.there (.there (.there (.there (.here (.here (.nil (Nat.zero_le _)))))))) (.nil)))) rfl ?_)
    clear hst; intro a hst
    refine l_op rfl (r_store hst rfl rfl rfl Tsz58 rfl (.tail (.head (.here (.here (.here (.here (.here (.here (.nil (Nat.zero_le _)))))))))) ?_)
    clear hst; intro w hst
    refine wpList_nil ?_
    refine then_n ?_
    refine wp_seq ?_
    refine wp_seq ?_
    refine wp_region_lit ?_
    refine l_op rfl (r_loada hst rfl Ta48 (.head _) (.cons rfl (.cons rfl (.cons rfl (.cons rfl (.cons rfl (.cons rfl (.nil))))))) rfl rfl ?_)
    clear hst; intro a hst
    refine l_op rfl (r_call (xs := [(Operand.tmp 44), (Operand.const (Value.int IntKind.i64 5)), (Operand.const (Value.string { data := #[102, 114, 101, 101] }))]) hst rfl Ten14 (is_c _ _ _ _ _ _ _ (by omega) hn (by first | exact hst.fact | exact hst.fact.2 | exact hst.fact.2.2 | exact hst.fact.2.2.2 | exact hst.fact.2.2.2.2) (by decide)) rfl ?_)
    clear hst; rintro a _ w U ⟨b1, rfl, hb1⟩ hst
    refine wpList_nil ?_
    refine then_n ?_
    refine x_cond hst rfl (fun hc3 => ?_) (fun hc3 => ?_)
    · try simp at hc3
      try (have hz := hb1; simp [hc3] at hz)
      refine wp_region_lit ?_
      refine l_op rfl (r_fieldAddr hst rfl Tf48_1 rfl ?_)
      clear hst; intro a hst
      refine l_op rfl (r_loads hst rfl Ts3 (.head _) rfl rfl ?_)
      clear hst; intro a hst
      refine l_op rfl (r_bin hst rfl rfl rfl rfl rfl ?_)
      clear hst; intro a hst
      rw [wrap_in _ (by omega) (by omega)] at hst
      refine l_op rfl (r_fieldAddr hst rfl Tf48_1 rfl ?_)
      clear hst; intro a hst
      refine l_op rfl (r_store hst rfl rfl rfl Tsz3 rfl (.head (.there (.here (.nil (Nat.zero_le _))))) ?_)
      clear hst; intro w hst
      refine wpList_nil ?_
      refine then_n ?_
      refine wp_seq ?_
      refine wp_region_lit ?_
      refine l_op rfl (r_loada hst rfl Ta48 (.head _) (.cons rfl (.cons rfl (.cons rfl (.cons rfl (.cons rfl (.cons rfl (.nil))))))) rfl rfl ?_)
      clear hst; intro a hst
      refine l_op rfl (r_call (xs := [(Operand.tmp 62), (Operand.const (Value.int IntKind.i64 5)), (Operand.const (Value.string { data := #[105, 110] }))]) hst rfl Ten13 (take_c _ _ _ _ _ _ _ (by omega) hn (by first | exact hst.fact | exact hst.fact.2 | exact hst.fact.2.2 | exact hst.fact.2.2.2 | exact hst.fact.2.2.2.2) (by omega) (by decide)) rfl ?_)
      clear hst; rintro a _ w U ⟨i1, b1, x1, y1, rfl, ht1⟩ hst
      refine l_op rfl (r_call (xs := [(Operand.tmp 63)]) hst rfl Ten43 (ih _ (Nat.lt_of_lt_of_le (mu_lt (by grind) (by omega) (by omega) (by grind)) hmu) _ _ _ _ _ _ _ (by omega) (by omega) (by omega) (by omega) (Nat.le_refl _) (by first | exact hst.fact | exact hst.fact.2 | exact hst.fact.2.2 | exact hst.fact.2.2.2 | exact hst.fact.2.2.2.2)) rfl ?_)
      clear hst; rintro a _ w U ⟨i10, b10, x10, y10, k10, m10, p10, q10, s10, B10, l10, c10, t10, rfl, h10a, h10b, h10c, h10⟩ hst
      have hst := hst.addFact (ERep.mono _ _) h10
      refine l_op rfl (r_move hst rfl rfl ?_)
      clear hst; intro a hst
      refine l_op rfl (r_extract hst rfl rfl rfl ?_)
      clear hst; intro a hst
      refine l_op rfl (r_extract hst rfl rfl rfl ?_)
      clear hst; intro a hst
      refine l_op rfl (r_alloc hst Tz48 rfl ?_)
      clear hst; intro a w g7 hst
      refine l_op rfl (r_alloc hst Tz58 rfl ?_)
      clear hst; intro a w g8 hst
      refine l_op rfl (r_store hst rfl rfl rfl Tsz48 rfl (.tail (.head (.here (.here (.here (.here (.here (.here (.nil (Nat.zero_le _)))))))))) ?_)
      clear hst; intro w hst
      refine l_op rfl (r_store hst rfl rfl rfl Tsz58 rfl (.head (.here (.here (.here (.here (.here (.here (.nil (Nat.zero_le _))))))))) ?_)
      clear hst; intro w hst
      refine wpList_nil ?_
      refine then_n ?_
      refine wp_seq ?_
      refine wp_region_lit ?_
      refine l_op rfl (r_fieldAddr hst rfl Tf58_3 rfl ?_)
      clear hst; intro a hst
      refine l_op rfl (r_loads hst rfl Ts56 (.tail _ (.tail _ (.tail _ (.head _)))) rfl rfl ?_)
      clear hst; intro a hst
      refine l_op rfl (r_loada hst rfl Ta58 (.head _) (.cons rfl (.cons rfl (.cons rfl (.cons rfl (.cons rfl (.cons rfl (.nil))))))) rfl rfl ?_)
      clear hst; intro a hst
      refine l_op rfl (r_slice1 hst Tu56 Tsz58 Tz58 rfl (by decide) (by decide) rfl rfl rfl rfl ?_)
      clear hst; intro a w g9 hst
      have hst := hst.row_nil 58 (sz := 6) (by decide)
      refine l_op rfl (r_append hst rfl rfl Tet56 (.head _) rfl (by decide) rfl (Cont.nil _ _ _) rfl (by decide) (by decide) rfl ?_)
      clear hst; intro a v w U hext hcont hv hst
      obtain ⟨B2, c2, rfl, hcc2⟩ := hv
      have hst := hst.addFact (Cont.mono _ _) hcont
      refine l_op rfl (r_fieldAddr hst rfl Tf58_3 rfl ?_)
      clear hst; intro a hst
      refine l_op rfl (r_store hst rfl rfl rfl Tsz56 rfl (.tail (.tail (.tail (.tail (.head (.there (.there (.there (.here (.nil (Nat.zero_le _))))))))))) ?_)
      clear hst; intro w hst
      refine wpList_nil ?_
      refine then_n ?_
      refine wp_seq ?_
      refine wp_region_lit ?_
      refine l_op rfl (r_move hst rfl rfl ?_)
      clear hst; intro a hst
      refine l_op rfl (r_fieldAddr hst rfl Tf48_2 rfl ?_)
      clear hst; intro a hst
      refine l_op rfl (r_store hst rfl rfl rfl Tsz3 rfl (.tail (.tail (.head (.there (.there (.here (.nil (Nat.zero_le _)))))))) ?_)
      clear hst; intro w hst
      refine wpList_nil ?_
      refine then_n ?_
      refine wp_seq ?_
      refine x_drawh (by kernel_rfl) hst (.cons _ (.cons _ (.cons_cons _ (.cons _ (.cons_cons _ (.cons _ (.cons _ (.cons _ (.cons _ (.slnil)))))))))) ?_
      clear hst; intro w hst
      refine h_take (i := 0) hst (.cons _ (.cons _ (.cons_cons _ (.cons _ (.cons_cons _ (.cons _ (.cons _ (.cons _ (.cons _ (.slnil)))))))))) rfl rfl rfl rfl (by kernel_rfl) (by kernel_rfl) (by kernel_rfl) (fun _ _ _ h => h) (fun _ _ _ _ hst => q_loada hst rfl Ta48 (.head _) (.cons rfl (.cons rfl (.cons rfl (.cons rfl (.cons rfl (.cons rfl (.nil))))))) rfl) ?_
      clear hst; intro a hst
      refine h_take (i := 1) hst (.cons _ (.cons _ (.cons_cons _ (.cons _ (.cons_cons _ (.cons _ (.cons _ (.cons _ (.cons _ (.slnil)))))))))) rfl rfl rfl rfl (by kernel_rfl) (by kernel_rfl) (by kernel_rfl) (fun _ _ _ h => h) (fun _ _ _ _ hst => q_loada hst rfl Ta58 (.tail _ (.head _)) (.cons rfl (.cons rfl (.cons rfl (.cons rfl (.cons rfl (.cons rfl (.nil))))))) rfl) ?_
      clear hst; intro a hst
      refine h_one (i := 2) (by kernel_rfl) rfl rfl (r_store hst rfl rfl rfl Tsz48 rfl (.tail (.tail (.tail (.tail (.tail (.tail (.tail (.head (.here (.here (.here (.here (.here (.here (.nil (Nat.zero_le _)))))))))))))))) ?_)
      clear hst; intro w hst
      refine ⟨hst.held (.cons _ (.cons _ (.cons_cons _ (.cons _ (.cons_cons _ (.cons _ (.cons _ (.cons _ (.cons _ (.slnil)))))))))), ?_⟩
      refine h_one (i := 3) (by kernel_rfl) rfl rfl (r_store hst rfl rfl rfl Tsz58 rfl (.tail (.tail (.tail (.tail (.tail (.tail (.head (.here (.here (.here (.here (.here (.here (.nil (Nat.zero_le _))))))))))))))) ?_)
      clear hst; intro w hst
      refine ⟨hst.held (.cons _ (.cons _ (.cons_cons _ (.cons _ (.cons_cons _ (.cons _ (.cons _ (.cons _ (.cons _ (.slnil)))))))))), ?_⟩
      refine h_done (by kernel_rfl) ?_
      refine then_n ?_
      refine wp_ret ?_
      refine inb_r ?_
      refine x_ret (rs := [.cell 2 48, .cell 3 58]) hst rfl (.agg rfl Ta48 (.tail _ (.tail _ (.tail _ (.tail _ (.tail _ (.tail _ (.tail _ (.head _)))))))) rfl (.agg rfl Ta58 (.tail _ (.tail _ (.tail _ (.tail _ (.tail _ (.tail _ (.head _))))))) rfl (.nil))) ?_
      have hfl := Flat.snoc (K := kE) (Flat.nil kE _ _) hst.fact.2.1
      exact ⟨_, _, _, _, _, _, _, _, _, _, _, _, _, rfl, by grind, by grind, by grind, ERep.of_sl (Sl.of_flat hst.fact.1 hfl rfl hcc2)⟩
    try simp at hc3
    try (have hz := hb1; simp [hc3] at hz)
    refine wp_seq ?_
    refine wp_region_lit ?_
    refine l_op rfl (r_build (ps := []) hst Tso58 Tz58 (.nil) rfl ?_)
    clear hst; intro a hst
    refine l_op rfl (r_alloc hst Tz58 rfl ?_)
    clear hst; intro a w g7 hst
    refine l_op rfl (r_store hst rfl rfl rfl Tsz58 rfl (.head (.here (.here (.here (.here (.here (.here (.nil (Nat.zero_le _))))))))) ?_)
    clear hst; intro w hst
    refine wpList_nil ?_
    refine then_n ?_
    refine wp_seq ?_
    refine wp_region_lit ?_
    refine l_op rfl (r_loada hst rfl Ta48 (.tail _ (.head _)) (.cons rfl (.cons rfl (.cons rfl (.cons rfl (.cons rfl (.cons rfl (.nil))))))) rfl rfl ?_)
    clear hst; intro a hst
    refine l_op rfl (r_call (xs := [(Operand.tmp 52), (Operand.const (Value.int IntKind.i64 6)), (Operand.const (Value.string { data := #[61] }))]) hst rfl Ten13 (take_c _ _ _ _ _ _ _ (by omega) hn (by first | exact hst.fact | exact hst.fact.2 | exact hst.fact.2.2 | exact hst.fact.2.2.2 | exact hst.fact.2.2.2.2) (by omega) (by decide)) rfl ?_)
    clear hst; rintro a _ w U ⟨i1, b1, x1, y1, rfl, ht1⟩ hst
    refine l_op rfl (r_call (xs := [(Operand.tmp 53)]) hst rfl Ten43 (ih _ (Nat.lt_of_lt_of_le (mu_lt (by grind) (by omega) (by omega) (by grind)) hmu) _ _ _ _ _ _ _ (by omega) (by omega) (by omega) (by omega) (Nat.le_refl _) (by first | exact hst.fact | exact hst.fact.2 | exact hst.fact.2.2 | exact hst.fact.2.2.2 | exact hst.fact.2.2.2.2)) rfl ?_)
    clear hst; rintro a _ w U ⟨i9, b9, x9, y9, k9, m9, p9, q9, s9, B9, l9, c9, t9, rfl, h9a, h9b, h9c, h9⟩ hst
    have hst := hst.addFact (ERep.mono _ _) h9
    refine l_op rfl (r_move hst rfl rfl ?_)
    clear hst; intro a hst
    refine l_op rfl (r_extract hst rfl rfl rfl ?_)
    clear hst; intro a hst
    refine l_op rfl (r_extract hst rfl rfl rfl ?_)
    clear hst; intro a hst
    refine l_op rfl (r_store hst rfl rfl rfl Tsz48 rfl (.tail (.head (.here (.here (.here (.here (.here (.here (.nil (Nat.zero_le _)))))))))) ?_)
    clear hst; intro w hst
    refine l_op rfl (r_store hst rfl rfl rfl Tsz58 rfl (.head (.here (.here (.here (.here (.here (.here (.nil (Nat.zero_le _))))))))) ?_)
    clear hst; intro w hst
    refine wpList_nil ?_
    refine then_n ?_
    refine wp_seq ?_
    refine wp_region_lit ?_
    refine l_op rfl (r_fieldAddr hst rfl Tf58_0 rfl ?_)
    clear hst; intro a hst
    refine l_op rfl (r_store hst rfl rfl rfl Tsz3 rfl (.tail (.tail (.head (.here (.nil (Nat.zero_le _)))))) ?_)
    clear hst; intro w hst
    refine wpList_nil ?_
    refine then_n ?_
    refine wp_region_lit ?_
    refine l_op rfl (r_loada hst rfl Ta58 (.head _) (.cons rfl (.cons rfl (.cons rfl (.cons rfl (.cons rfl (.cons rfl (.nil))))))) rfl rfl ?_)
    clear hst; intro a hst
    refine l_op rfl (r_slice1 hst Tu56 Tsz58 Tz58 rfl (by decide) (by decide) rfl rfl rfl rfl ?_)
    clear hst; intro a w g8 hst
    refine l_op rfl (r_fieldAddr hst rfl Tf58_3 rfl ?_)
    clear hst; intro a hst
    refine l_op rfl (r_store hst rfl rfl rfl Tsz56 rfl (.tail (.tail (.tail (.head (.there (.there (.there (.here (.nil (Nat.zero_le _)))))))))) ?_)
    clear hst; intro w hst
    refine wpList_nil ?_
    refine then_n ?_
    refine wp_seq ?_
    refine wp_region_lit ?_
    refine l_op rfl (r_loada hst rfl Ta48 (.tail _ (.tail _ (.head _))) (.cons rfl (.cons rfl (.cons rfl (.cons rfl (.cons rfl (.cons rfl (.nil))))))) rfl rfl ?_)
    clear hst; intro a hst
    refine l_op rfl (r_call (xs := [(Operand.tmp 62), (Operand.const (Value.int IntKind.i64 5)), (Operand.const (Value.string { data := #[105, 110] }))]) hst rfl Ten13 (take_c _ _ _ _ _ _ _ (by omega) hn (by first | exact hst.fact | exact hst.fact.2 | exact hst.fact.2.2 | exact hst.fact.2.2.2 | exact hst.fact.2.2.2.2) (by omega) (by decide)) rfl ?_)
    clear hst; rintro a _ w U ⟨i1, b1, x1, y1, rfl, ht1⟩ hst
    refine l_op rfl (r_call (xs := [(Operand.tmp 63)]) hst rfl Ten43 (ih _ (Nat.lt_of_lt_of_le (mu_lt (by grind) (by omega) (by omega) (by grind)) hmu) _ _ _ _ _ _ _ (by omega) (by omega) (by omega) (by omega) (Nat.le_refl _) (by first | exact hst.fact | exact hst.fact.2 | exact hst.fact.2.2 | exact hst.fact.2.2.2 | exact hst.fact.2.2.2.2)) rfl ?_)
    clear hst; rintro a _ w U ⟨i10, b10, x10, y10, k10, m10, p10, q10, s10, B10, l10, c10, t10, rfl, h10a, h10b, h10c, h10⟩ hst
    have hst := hst.addFact (ERep.mono _ _) h10
    refine l_op rfl (r_move hst rfl rfl ?_)
    clear hst; intro a hst
    refine l_op rfl (r_extract hst rfl rfl rfl ?_)
    clear hst; intro a hst
    refine l_op rfl (r_extract hst rfl rfl rfl ?_)
    clear hst; intro a hst
    refine l_op rfl (r_alloc hst Tz48 rfl ?_)
    clear hst; intro a w g9 hst
    refine l_op rfl (r_alloc hst Tz58 rfl ?_)
    clear hst; intro a w g10 hst
    refine l_op rfl (r_store hst rfl rfl rfl Tsz48 rfl (.tail (.head (.here (.here (.here (.here (.here (.here (.nil (Nat.zero_le _)))))))))) ?_)
    clear hst; intro w hst
    refine l_op rfl (r_store hst rfl rfl rfl Tsz58 rfl (.head (.here (.here (.here (.here (.here (.here (.nil (Nat.zero_le _))))))))) ?_)
    clear hst; intro w hst
    refine wpList_nil ?_
    refine then_n ?_
    refine wp_seq ?_
    refine wp_region_lit ?_
    refine l_op rfl (r_fieldAddr hst rfl Tf58_3 rfl ?_)
    clear hst; intro a hst
    refine l_op rfl (r_loads hst rfl Ts56 (.tail _ (.tail _ (.tail _ (.tail _ (.tail _ (.head _)))))) rfl rfl ?_)
    clear hst; intro a hst
    refine l_op rfl (r_loada hst rfl Ta58 (.head _) (.cons rfl (.cons rfl (.cons rfl (.cons rfl (.cons rfl (.cons rfl (.nil))))))) rfl rfl ?_)
    clear hst; intro a hst
    refine l_op rfl (r_slice1 hst Tu56 Tsz58 Tz58 rfl (by decide) (by decide) rfl rfl rfl rfl ?_)
    clear hst; intro a w g11 hst
    obtain ⟨U, hext1, hcont1, hst⟩ := hst.enrow_ (m := 1) (sz := 6) (.tail (.tail (.tail (.head)))) rfl (by decide) (by decide) (by decide)
    refine l_op rfl (r_append hst rfl rfl Tet56 (.head _) rfl (by decide) rfl hcont1 rfl (by decide) (by decide) rfl ?_)
    clear hst; intro a v w U hext hcont hv hst
    obtain ⟨B2, c2, rfl, hcc2⟩ := hv
    have hst := hst.addFact (Cont.mono _ _) hcont
    refine l_op rfl (r_fieldAddr hst rfl Tf58_3 rfl ?_)
    clear hst; intro a hst
    refine l_op rfl (r_store hst rfl rfl rfl Tsz56 rfl (.tail (.tail (.tail (.tail (.tail (.head (.there (.there (.there (.here (.nil (Nat.zero_le _)))))))))))) ?_)
    clear hst; intro w hst
    refine wpList_nil ?_
    refine then_n ?_
    refine wp_seq ?_
    refine wp_region_lit ?_
    refine l_op rfl (r_move hst rfl rfl ?_)
    clear hst; intro a hst
    refine l_op rfl (r_fieldAddr hst rfl Tf48_2 rfl ?_)
    clear hst; intro a hst
    refine l_op rfl (r_store hst rfl rfl rfl Tsz3 rfl (.tail (.tail (.head (.there (.there (.here (.nil (Nat.zero_le _)))))))) ?_)
    clear hst; intro w hst
    refine wpList_nil ?_
    refine then_n ?_
    refine wp_seq ?_
    refine x_drawh (by kernel_rfl) hst (.cons _ (.cons _ (.cons_cons _ (.cons _ (.cons _ (.cons_cons _ (.cons _ (.cons _ (.cons _ (.cons _ (.slnil))))))))))) ?_
    clear hst; intro w hst
    refine h_take (i := 0) hst (.cons _ (.cons _ (.cons_cons _ (.cons _ (.cons _ (.cons_cons _ (.cons _ (.cons _ (.cons _ (.cons _ (.slnil))))))))))) rfl rfl rfl rfl (by kernel_rfl) (by kernel_rfl) (by kernel_rfl) (fun _ _ _ h => h) (fun _ _ _ _ hst => q_loada hst rfl Ta48 (.head _) (.cons rfl (.cons rfl (.cons rfl (.cons rfl (.cons rfl (.cons rfl (.nil))))))) rfl) ?_
    clear hst; intro a hst
    refine h_take (i := 1) hst (.cons _ (.cons _ (.cons_cons _ (.cons _ (.cons _ (.cons_cons _ (.cons _ (.cons _ (.cons _ (.cons _ (.slnil))))))))))) rfl rfl rfl rfl (by kernel_rfl) (by kernel_rfl) (by kernel_rfl) (fun _ _ _ h => h) (fun _ _ _ _ hst => q_loada hst rfl Ta58 (.tail _ (.head _)) (.cons rfl (.cons rfl (.cons rfl (.cons rfl (.cons rfl (.cons rfl (.nil))))))) rfl) ?_
    clear hst; intro a hst
    refine h_one (i := 2) (by kernel_rfl) rfl rfl (r_store hst rfl rfl rfl Tsz48 rfl (.tail (.tail (.tail (.tail (.tail (.tail (.tail (.tail (.head (.here (.here (.here (.here (.here (.here (.nil (Nat.zero_le _))))))))))))))))) ?_)
    clear hst; intro w hst
    refine ⟨hst.held (.cons _ (.cons _ (.cons_cons _ (.cons _ (.cons _ (.cons_cons _ (.cons _ (.cons _ (.cons _ (.cons _ (.slnil))))))))))), ?_⟩
    refine h_one (i := 3) (by kernel_rfl) rfl rfl (r_store hst rfl rfl rfl Tsz58 rfl (.tail (.tail (.tail (.tail (.tail (.tail (.tail (.head (.here (.here (.here (.here (.here (.here (.nil (Nat.zero_le _)))))))))))))))) ?_)
    clear hst; intro w hst
    refine ⟨hst.held (.cons _ (.cons _ (.cons_cons _ (.cons _ (.cons _ (.cons_cons _ (.cons _ (.cons _ (.cons _ (.cons _ (.slnil))))))))))), ?_⟩
    refine h_done (by kernel_rfl) ?_
    refine then_n ?_
    refine wp_ret ?_
    refine inb_r ?_
    refine x_ret (rs := [.cell 2 48, .cell 3 58]) hst rfl (.agg rfl Ta48 (.tail _ (.tail _ (.tail _ (.tail _ (.tail _ (.tail _ (.tail _ (.tail _ (.head _))))))))) rfl (.agg rfl Ta58 (.tail _ (.tail _ (.tail _ (.tail _ (.tail _ (.tail _ (.tail _ (.head _)))))))) rfl (.nil))) ?_
    have hfl := Flat.snoc (K := kE) (Flat.one (K := kE) hst.fact.2.2.1) hst.fact.2.1
    exact ⟨_, _, _, _, _, _, _, _, _, _, _, _, _, rfl, by grind, by grind, by grind, ERep.of_sl (Sl.of_flat hst.fact.1 hfl rfl hcc2)⟩
  try simp at hc2
  try (have hz := hb1; simp [hc2] at hz)
  refine wp_seq ?_
  refine wp_region_lit ?_
  refine l_op rfl (r_loada hst rfl Ta48 (.tail _ (.tail _ (.tail _ (.tail _ (.head _))))) (.cons rfl (.cons rfl (.cons rfl (.cons rfl (.cons rfl (.cons rfl (.nil))))))) rfl rfl ?_)
  clear hst; intro a hst
  refine l_op rfl (r_call (xs := [(Operand.tmp 78), (Operand.const (Value.int IntKind.i64 5)), (Operand.const (Value.string { data := #[105, 102] }))]) hst rfl Ten14 (is_c _ _ _ _ _ _ _ (by omega) hn (by first | exact hst.fact | exact hst.fact.2 | exact hst.fact.2.2 | exact hst.fact.2.2.2 | exact hst.fact.2.2.2.2) (by decide)) rfl ?_)
  clear hst; rintro a _ w U ⟨b1, rfl, hb1⟩ hst
  refine l_op rfl (r_assign hst rfl rfl ?_)
  clear hst; intro a hst
  refine wpList_nil ?_
  refine then_n ?_
  refine x_cond hst rfl (fun hc4 => ?_) (fun hc4 => ?_)
  · try simp at hc4
    try (have hz := hb1; simp [hc4] at hz)
    refine wp_seq ?_
    refine wp_region_lit ?_
    refine l_op rfl (r_loada hst rfl Ta48 (.tail _ (.tail _ (.tail _ (.tail _ (.head _))))) (.cons rfl (.cons rfl (.cons rfl (.cons rfl (.cons rfl (.cons rfl (.nil))))))) rfl rfl ?_)
    clear hst; intro a hst
    refine l_op rfl (r_call (xs := [(Operand.tmp 81)]) hst rfl Ten63 (down_c _ _ _ _ _ (by omega) hn (by first | exact hst.fact | exact hst.fact.2 | exact hst.fact.2.2 | exact hst.fact.2.2.2 | exact hst.fact.2.2.2.2) (by omega) (by omega) (by omega)) rfl ?_)
    clear hst; rintro a _ w U ⟨i3, d3, b3, x3, y3, rfl, hd3⟩ hst
    refine l_op rfl (r_call (xs := [(Operand.tmp 82)]) hst rfl Ten43 (ih _ (Nat.lt_of_lt_of_le (mu_lt (by grind) (by omega) (by omega) (by grind)) hmu) _ _ _ _ _ _ _ (by omega) (by omega) (by omega) (by omega) (Nat.le_refl _) (by first | exact hst.fact | exact hst.fact.2 | exact hst.fact.2.2 | exact hst.fact.2.2.2 | exact hst.fact.2.2.2.2)) rfl ?_)
    clear hst; rintro a _ w U ⟨i9, b9, x9, y9, k9, m9, p9, q9, s9, B9, l9, c9, t9, rfl, h9a, h9b, h9c, h9⟩ hst
    have hst := hst.addFact (ERep.mono _ _) h9
    refine l_op rfl (r_move hst rfl rfl ?_)
    clear hst; intro a hst
    refine l_op rfl (r_extract hst rfl rfl rfl ?_)
    clear hst; intro a hst
    refine l_op rfl (r_extract hst rfl rfl rfl ?_)
    clear hst; intro a hst
    refine l_op rfl (r_alloc hst Tz48 rfl ?_)
    clear hst; intro a w g6 hst
    refine l_op rfl (r_alloc hst Tz58 rfl ?_)
    clear hst; intro a w g7 hst
    refine l_op rfl (r_store hst rfl rfl rfl Tsz48 rfl (.tail (.head (.here (.here (.here (.here (.here (.here (.nil (Nat.zero_le _)))))))))) ?_)
    clear hst; intro w hst
    refine l_op rfl (r_store hst rfl rfl rfl Tsz58 rfl (.head (.here (.here (.here (.here (.here (.here (.nil (Nat.zero_le _))))))))) ?_)
    clear hst; intro w hst
    refine wpList_nil ?_
    refine then_n ?_
    refine wp_seq ?_
    refine wp_region_lit ?_
    refine l_op rfl (r_loada hst rfl Ta48 (.tail _ (.head _)) (.cons rfl (.cons rfl (.cons rfl (.cons rfl (.cons rfl (.cons rfl (.nil))))))) rfl rfl ?_)
    clear hst; intro a hst
    refine l_op rfl (r_call (xs := [(Operand.tmp 87), (Operand.const (Value.int IntKind.i64 5)), (Operand.const (Value.string { data := #[116, 104, 101, 110] }))]) hst rfl Ten13 (take_c _ _ _ _ _ _ _ (by omega) hn (by first | exact hst.fact | exact hst.fact.2 | exact hst.fact.2.2 | exact hst.fact.2.2.2 | exact hst.fact.2.2.2.2) (by omega) (by decide)) rfl ?_)
    clear hst; rintro a _ w U ⟨i1, b1, x1, y1, rfl, ht1⟩ hst
    refine l_op rfl (r_call (xs := [(Operand.tmp 88)]) hst rfl Ten43 (ih _ (Nat.lt_of_lt_of_le (mu_lt (by grind) (by omega) (by omega) (by grind)) hmu) _ _ _ _ _ _ _ (by omega) (by omega) (by omega) (by omega) (Nat.le_refl _) (by first | exact hst.fact | exact hst.fact.2 | exact hst.fact.2.2 | exact hst.fact.2.2.2 | exact hst.fact.2.2.2.2)) rfl ?_)
    clear hst; rintro a _ w U ⟨i10, b10, x10, y10, k10, m10, p10, q10, s10, B10, l10, c10, t10, rfl, h10a, h10b, h10c, h10⟩ hst
    have hst := hst.addFact (ERep.mono _ _) h10
    refine l_op rfl (r_move hst rfl rfl ?_)
    clear hst; intro a hst
    refine l_op rfl (r_extract hst rfl rfl rfl ?_)
    clear hst; intro a hst
    refine l_op rfl (r_extract hst rfl rfl rfl ?_)
    clear hst; intro a hst
    refine l_op rfl (r_alloc hst Tz48 rfl ?_)
    clear hst; intro a w g8 hst
    refine l_op rfl (r_alloc hst Tz58 rfl ?_)
    clear hst; intro a w g9 hst
    refine l_op rfl (r_store hst rfl rfl rfl Tsz48 rfl (.tail (.head (.here (.here (.here (.here (.here (.here (.nil (Nat.zero_le _)))))))))) ?_)
    clear hst; intro w hst
    refine l_op rfl (r_store hst rfl rfl rfl Tsz58 rfl (.head (.here (.here (.here (.here (.here (.here (.nil (Nat.zero_le _))))))))) ?_)
    clear hst; intro w hst
    refine wpList_nil ?_
    refine then_n ?_
    refine wp_seq ?_
    refine wp_region_lit ?_
    refine l_op rfl (r_loada hst rfl Ta48 (.tail _ (.head _)) (.cons rfl (.cons rfl (.cons rfl (.cons rfl (.cons rfl (.cons rfl (.nil))))))) rfl rfl ?_)
    clear hst; intro a hst
    refine l_op rfl (r_call (xs := [(Operand.tmp 93), (Operand.const (Value.int IntKind.i64 5)), (Operand.const (Value.string { data := #[101, 108, 115, 101] }))]) hst rfl Ten13 (take_c _ _ _ _ _ _ _ (by omega) hn (by first | exact hst.fact | exact hst.fact.2 | exact hst.fact.2.2 | exact hst.fact.2.2.2 | exact hst.fact.2.2.2.2) (by omega) (by decide)) rfl ?_)
    clear hst; rintro a _ w U ⟨i1, b1, x1, y1, rfl, ht1⟩ hst
    refine l_op rfl (r_call (xs := [(Operand.tmp 94)]) hst rfl Ten43 (ih _ (Nat.lt_of_lt_of_le (mu_lt (by grind) (by omega) (by omega) (by grind)) hmu) _ _ _ _ _ _ _ (by omega) (by omega) (by omega) (by omega) (Nat.le_refl _) (by first | exact hst.fact | exact hst.fact.2 | exact hst.fact.2.2 | exact hst.fact.2.2.2 | exact hst.fact.2.2.2.2)) rfl ?_)
    clear hst; rintro a _ w U ⟨i11, b11, x11, y11, k11, m11, p11, q11, s11, B11, l11, c11, t11, rfl, h11a, h11b, h11c, h11⟩ hst
    have hst := hst.addFact (ERep.mono _ _) h11
    refine l_op rfl (r_move hst rfl rfl ?_)
    clear hst; intro a hst
    refine l_op rfl (r_extract hst rfl rfl rfl ?_)
    clear hst; intro a hst
    refine l_op rfl (r_extract hst rfl rfl rfl ?_)
    clear hst; intro a hst
    refine l_op rfl (r_alloc hst Tz48 rfl ?_)
    clear hst; intro a w g10 hst
    refine l_op rfl (r_alloc hst Tz58 rfl ?_)
    clear hst; intro a w g11 hst
    refine l_op rfl (r_store hst rfl rfl rfl Tsz48 rfl (.tail (.head (.here (.here (.here (.here (.here (.here (.nil (Nat.zero_le _)))))))))) ?_)
    clear hst; intro w hst
    refine l_op rfl (r_store hst rfl rfl rfl Tsz58 rfl (.head (.here (.here (.here (.here (.here (.here (.nil (Nat.zero_le _))))))))) ?_)
    clear hst; intro w hst
    refine wpList_nil ?_
    refine then_n ?_
    refine wp_seq ?_
    refine wp_region_lit ?_
    refine l_op rfl (r_move hst rfl rfl ?_)
    clear hst; intro a hst
    refine l_op rfl (r_fieldAddr hst rfl Tf48_2 rfl ?_)
    clear hst; intro a hst
    refine l_op rfl (r_store hst rfl rfl rfl Tsz3 rfl (.tail (.head (.there (.there (.here (.nil (Nat.zero_le _))))))) ?_)
    clear hst; intro w hst
    refine wpList_nil ?_
    refine then_n ?_
    refine wp_seq ?_
    refine x_drawh (by kernel_rfl) hst (.cons_cons _ (.cons_cons _ (.cons_cons _ (.cons _ (.cons_cons _ (.cons _ (.cons _ (.cons_cons _ (.cons _ (.cons _ (.cons _ (.slnil)))))))))))) ?_
    clear hst; intro w hst
    refine h_take (i := 0) hst (.cons_cons _ (.cons_cons _ (.cons_cons _ (.cons _ (.cons_cons _ (.cons _ (.cons _ (.cons_cons _ (.cons _ (.cons _ (.cons _ (.slnil)))))))))))) rfl rfl rfl rfl (by kernel_rfl) (by kernel_rfl) (by kernel_rfl) (fun _ _ _ h => h) (fun _ _ _ _ hst => q_loada hst rfl Ta48 (.tail _ (.head _)) (.cons rfl (.cons rfl (.cons rfl (.cons rfl (.cons rfl (.cons rfl (.nil))))))) rfl) ?_
    clear hst; intro a hst
    refine h_take (i := 1) hst (.cons_cons _ (.cons_cons _ (.cons_cons _ (.cons _ (.cons_cons _ (.cons _ (.cons _ (.cons_cons _ (.cons _ (.cons _ (.cons _ (.slnil)))))))))))) rfl rfl rfl rfl (by kernel_rfl) (by kernel_rfl) (by kernel_rfl) (fun _ _ _ h => h) (fun _ _ _ _ hst => q_loada hst rfl Ta58 (.tail _ (.tail _ (.tail _ (.head _)))) (.cons rfl (.cons rfl (.cons rfl (.cons rfl (.cons rfl (.cons rfl (.nil))))))) rfl) ?_
    clear hst; intro a hst
    refine h_take (i := 2) hst (.cons_cons _ (.cons_cons _ (.cons_cons _ (.cons _ (.cons_cons _ (.cons _ (.cons _ (.cons_cons _ (.cons _ (.cons _ (.cons _ (.slnil)))))))))))) rfl rfl rfl rfl (by kernel_rfl) (by kernel_rfl) (by kernel_rfl) (fun _ _ _ h => h) (fun _ _ _ _ hst => q_loada hst rfl Ta58 (.tail _ (.tail _ (.head _))) (.cons rfl (.cons rfl (.cons rfl (.cons rfl (.cons rfl (.cons rfl (.nil))))))) rfl) ?_
    clear hst; intro a hst
    refine h_take (i := 3) hst (.cons_cons _ (.cons_cons _ (.cons_cons _ (.cons _ (.cons_cons _ (.cons _ (.cons _ (.cons_cons _ (.cons _ (.cons _ (.cons _ (.slnil)))))))))))) rfl rfl rfl rfl (by kernel_rfl) (by kernel_rfl) (by kernel_rfl) (fun _ _ _ h => h) (fun _ _ _ _ hst => q_loada hst rfl Ta58 (.head _) (.cons rfl (.cons rfl (.cons rfl (.cons rfl (.cons rfl (.cons rfl (.nil))))))) rfl) ?_
    clear hst; intro a hst
    refine h_take (i := 5) hst (.cons_cons _ (.cons_cons _ (.cons_cons _ (.cons _ (.cons_cons _ (.cons _ (.cons _ (.cons_cons _ (.cons _ (.cons _ (.cons _ (.slnil)))))))))))) rfl rfl rfl rfl (by kernel_rfl) (by kernel_rfl) (by kernel_rfl) (fun _ _ _ h => h) (fun _ _ _ _ hst => q_loada hst rfl Ta28 (.tail _ (.tail _ (.tail _ (.tail _ (.head _))))) (.cons rfl (.cons rfl (.nil))) rfl) ?_
    clear hst; intro a hst
    refine h_two (i := 4) (j := 7) (by kernel_rfl) rfl rfl rfl rfl (r_sliceN (m := 3) (ps := [(0, (Operand.tmp 101)), (1, (Operand.tmp 102)), (2, (Operand.tmp 103))]) hst Tu56 Tsz58 Tz58 (zs := [.int .i64 0, .string ⟨#[]⟩, .int .i64 0, .slice none 0 0, .int .i64 0, .int .i64 0, .int .i64 0, .string ⟨#[]⟩, .int .i64 0, .slice none 0 0, .int .i64 0, .int .i64 0, .int .i64 0, .string ⟨#[]⟩, .int .i64 0, .slice none 0 0, .int .i64 0, .int .i64 0]) rfl rfl (by decide) (by decide) (.cons rfl rfl rfl rfl (.here (.here (.here (.here (.here (.here (.nil (Nat.zero_le _)))))))) (.cons rfl rfl rfl rfl (.there (.there (.there (.there (.there (.there (.here (.here (.here (.here (.here (.here (.nil (Nat.zero_le _)))))))))))))) (.cons rfl rfl rfl rfl (.there (.there (.there (.there (.there (.there (.there (.there (.there (.there (.there (.there (.here (.here (.here (.here (.here (.here (.nil (Nat.zero_le _)))))))))))))))))))) (.nil)))) rfl ?_) (r_store hst rfl rfl rfl Tsz48 rfl (.tail (.tail (.tail (.tail (.tail (.tail (.tail (.tail (.tail (.head (.here (.here (.here (.here (.here (.here (.nil (Nat.zero_le _)))))))))))))))))) ?_)
    · clear hst; intro a w g12 hst
      refine ⟨hst.held (.cons _ (.cons_cons _ (.cons_cons _ (.cons_cons _ (.cons _ (.cons_cons _ (.cons _ (.cons _ (.cons_cons _ (.cons _ (.cons _ (.cons _ (.slnil))))))))))))), ?_⟩
      refine h_take (i := 6) hst (.cons _ (.cons_cons _ (.cons_cons _ (.cons_cons _ (.cons _ (.cons_cons _ (.cons _ (.cons _ (.cons_cons _ (.cons _ (.cons _ (.cons _ (.slnil))))))))))))) rfl rfl rfl rfl (by kernel_rfl) (by kernel_rfl) (by kernel_rfl) (fun _ _ _ h => h) (fun _ _ _ _ hst => q_build (ps := [(0, (Operand.const (Value.int IntKind.i64 6))), (3, (Operand.tmp 104)), (4, (Operand.tmp 105))]) hst Tso58 Tz58 (.cons Tf58_0 rfl rfl (.here (.nil (Nat.zero_le _))) (.cons Tf58_3 rfl rfl (.there (.there (.there (.here (.nil (Nat.zero_le _)))))) (.cons Tf58_4 rfl rfl (.there (.there (.there (.there (.here (.here (.nil (Nat.zero_le _)))))))) (.nil))))) ?_
      clear hst; intro a hst
      refine h_one (i := 7) (by kernel_rfl) rfl rfl (r_store hst rfl rfl rfl Tsz48 rfl (.tail (.tail (.tail (.tail (.tail (.tail (.tail (.tail (.tail (.tail (.head (.here (.here (.here (.here (.here (.here (.nil (Nat.zero_le _))))))))))))))))))) ?_)
      clear hst; intro w hst
      refine ⟨hst.held (.cons _ (.cons_cons _ (.cons_cons _ (.cons_cons _ (.cons _ (.cons_cons _ (.cons _ (.cons _ (.cons_cons _ (.cons _ (.cons _ (.cons _ (.slnil))))))))))))), ?_⟩
      refine h_one (i := 8) (by kernel_rfl) rfl rfl (r_store hst rfl rfl rfl Tsz58 rfl (.tail (.tail (.tail (.tail (.tail (.tail (.tail (.tail (.tail (.head (.here (.here (.here (.here (.here (.here (.nil (Nat.zero_le _)))))))))))))))))) ?_)
      clear hst; intro w hst
      refine ⟨hst.held (.cons _ (.cons_cons _ (.cons_cons _ (.cons_cons _ (.cons _ (.cons_cons _ (.cons _ (.cons _ (.cons_cons _ (.cons _ (.cons _ (.cons _ (.slnil))))))))))))), ?_⟩
      refine h_done (by kernel_rfl) ?_
      refine then_n ?_
      refine wp_ret ?_
      refine inb_r ?_
      obtain ⟨U, hext, hcont, hst⟩ := hst.settle_ (.head)
      refine x_ret (rs := [.cell 2 48, .cell 3 58]) hst rfl (.agg rfl Ta48 (.tail _ (.tail _ (.tail _ (.tail _ (.tail _ (.tail _ (.tail _ (.tail _ (.tail _ (.head _)))))))))) rfl (.agg rfl Ta58 (.tail _ (.tail _ (.tail _ (.tail _ (.tail _ (.tail _ (.tail _ (.tail _ (.head _))))))))) rfl (.nil))) ?_
      have hfl := Flat.snoc (K := kE) (Flat.snoc (K := kE) (Flat.one (K := kE) hst.fact.2.2.1) hst.fact.2.1) hst.fact.1
      exact ⟨_, _, _, _, _, _, _, _, _, _, _, _, _, rfl, by grind, by grind, by grind, ERep.of_sl (Sl.of_flat (hcont 3 3) hfl rfl (by decide))⟩
    clear hst; intro w hst
    refine ⟨hst.held (.cons_cons _ (.cons_cons _ (.cons_cons _ (.cons _ (.cons_cons _ (.cons _ (.cons _ (.cons_cons _ (.cons _ (.cons _ (.cons _ (.slnil)))))))))))), ?_⟩
    refine h_one (i := 4) (by kernel_rfl) rfl rfl (r_sliceN (m := 3) (ps := [(0, (Operand.tmp 101)), (1, (Operand.tmp 102)), (2, (Operand.tmp 103))]) hst Tu56 Tsz58 Tz58 (zs := [.int .i64 0, .string ⟨#[]⟩, .int .i64 0, .slice none 0 0, .int .i64 0, .int .i64 0, .int .i64 0, .string ⟨#[]⟩, .int .i64 0, .slice none 0 0, .int .i64 0, .int .i64 0, .int .i64 0, .string ⟨#[]⟩, .int .i64 0, .slice none 0 0, .int .i64 0, .int .i64 0]) rfl rfl (by decide) (by decide) (.cons rfl rfl rfl rfl (.here (.here (.here (.here (.here (.here (.nil (Nat.zero_le _)))))))) (.cons rfl rfl rfl rfl (.there (.there (.there (.there (.there (.there (.here (.here (.here (.here (.here (.here (.nil (Nat.zero_le _)))))))))))))) (.cons rfl rfl rfl rfl (.there (.there (.there (.there (.there (.there (.there (.there (.there (.there (.there (.there (.here (.here (.here (.here (.here (.here (.nil (Nat.zero_le _)))))))))))))))))))) (.nil)))) rfl ?_)
    clear hst; intro a w g12 hst
    refine ⟨hst.held (.cons _ (.cons_cons _ (.cons_cons _ (.cons_cons _ (.cons _ (.cons_cons _ (.cons _ (.cons _ (.cons_cons _ (.cons _ (.cons _ (.cons _ (.slnil))))))))))))), ?_⟩
    refine h_take (i := 6) hst (.cons _ (.cons_cons _ (.cons_cons _ (.cons_cons _ (.cons _ (.cons_cons _ (.cons _ (.cons _ (.cons_cons _ (.cons _ (.cons _ (.cons _ (.slnil))))))))))))) rfl rfl rfl rfl (by kernel_rfl) (by kernel_rfl) (by kernel_rfl) (fun _ _ _ h => h) (fun _ _ _ _ hst => q_build (ps := [(0, (Operand.const (Value.int IntKind.i64 6))), (3, (Operand.tmp 104)), (4, (Operand.tmp 105))]) hst Tso58 Tz58 (.cons Tf58_0 rfl rfl (.here (.nil (Nat.zero_le _))) (.cons Tf58_3 rfl rfl (.there (.there (.there (.here (.nil (Nat.zero_le _)))))) (.cons Tf58_4 rfl rfl (.there (.there (.there (.there (.here (.here (.nil (Nat.zero_le _)))))))) (.nil))))) ?_
    clear hst; intro a hst
    refine h_one (i := 8) (by kernel_rfl) rfl rfl (r_store hst rfl rfl rfl Tsz58 rfl (.tail (.tail (.tail (.tail (.tail (.tail (.tail (.tail (.tail (.head (.here (.here (.here (.here (.here (.here (.nil (Nat.zero_le _)))))))))))))))))) ?_)
    clear hst; intro w hst
    refine ⟨hst.held (.cons _ (.cons_cons _ (.cons_cons _ (.cons_cons _ (.cons _ (.cons_cons _ (.cons _ (.cons _ (.cons_cons _ (.cons _ (.cons _ (.cons _ (.slnil))))))))))))), ?_⟩
    refine h_done (by kernel_rfl) ?_
    refine then_n ?_
    refine wp_ret ?_
    refine inb_r ?_
    obtain ⟨U, hext, hcont, hst⟩ := hst.settle_ (.head)
    refine x_ret (rs := [.cell 2 48, .cell 3 58]) hst rfl (.agg rfl Ta48 (.tail _ (.tail _ (.tail _ (.tail _ (.tail _ (.tail _ (.tail _ (.tail _ (.tail _ (.head _)))))))))) rfl (.agg rfl Ta58 (.tail _ (.tail _ (.tail _ (.tail _ (.tail _ (.tail _ (.tail _ (.tail _ (.head _))))))))) rfl (.nil))) ?_
    have hfl := Flat.snoc (K := kE) (Flat.snoc (K := kE) (Flat.one (K := kE) hst.fact.2.2.1) hst.fact.2.1) hst.fact.1
    exact ⟨_, _, _, _, _, _, _, _, _, _, _, _, _, rfl, by grind, by grind, by grind, ERep.of_sl (Sl.of_flat (hcont 3 3) hfl rfl (by decide))⟩
  try simp at hc4
  try (have hz := hb1; simp [hc4] at hz)
  refine wp_seq ?_
  refine wp_region_lit ?_
  refine l_op rfl (r_loada hst rfl Ta48 (.tail _ (.tail _ (.tail _ (.tail _ (.head _))))) (.cons rfl (.cons rfl (.cons rfl (.cons rfl (.cons rfl (.cons rfl (.nil))))))) rfl rfl ?_)
  clear hst; intro a hst
  refine l_op rfl (r_call (xs := [(Operand.tmp 23), (Operand.const (Value.int IntKind.i64 1))]) hst rfl Ten64 (hr1 _ _ _ _ _ _ _ (by omega) (by omega) (by omega) (by omega) hmu (by first | exact hst.fact | exact hst.fact.2 | exact hst.fact.2.2 | exact hst.fact.2.2.2 | exact hst.fact.2.2.2.2)) rfl ?_)
  clear hst; rintro a _ w U ⟨i9, b9, x9, y9, k9, m9, p9, q9, s9, B9, l9, c9, t9, rfl, h9a, h9b, h9c, h9⟩ hst
  have hst := hst.addFact (ERep.mono _ _) h9
  refine l_op rfl (r_extract hst rfl rfl rfl ?_)
  clear hst; intro a hst
  refine l_op rfl (r_extract hst rfl rfl rfl ?_)
  clear hst; intro a hst
  refine l_op rfl (r_store hst rfl rfl rfl Tsz48 rfl (.tail (.tail (.tail (.head (.here (.here (.here (.here (.here (.here (.nil (Nat.zero_le _)))))))))))) ?_)
  clear hst; intro w hst
  refine l_op rfl (r_store hst rfl rfl rfl Tsz58 rfl (.tail (.tail (.head (.here (.here (.here (.here (.here (.here (.nil (Nat.zero_le _))))))))))) ?_)
  clear hst; intro w hst
  refine wpList_nil ?_
  refine then_n ?_
  refine wp_ret ?_
  refine inb_r ?_
  refine x_ret (rs := [.cell 2 48, .cell 3 58]) hst rfl (.agg rfl Ta48 (.tail _ (.tail _ (.tail _ (.head _)))) rfl (.agg rfl Ta58 (.tail _ (.tail _ (.head _))) rfl (.nil))) ?_
  exact ⟨_, _, _, _, _, _, _, _, _, _, _, _, _, rfl, by grind, by grind, by grind, hst.fact.1⟩

/-- The reader of expressions, all its functions together. -/
theorem exprs_all {A : Option Addr} {n c : Nat} (hn : n ≤ 1000000) (mm : Nat) : SExp 43 A n c mm ∧ (∀ k, 1 ≤ k → k ≤ 5 → SRank A n c mm k) := by
  induction mm using Nat.strongRecOn with
  | _ mm ih =>
    have ihE : ∀ m, m < mm → SExp 43 A n c m := fun m hm => (ih m hm).1
    have ihR : ∀ m, m < mm → ∀ k, 1 ≤ k → k ≤ 5 → SRank A n c m k := fun m hm => (ih m hm).2
    have hat : SExp 101 A n c mm := fun w U i d x y b h0 hin hd0 hd hmu hT => atom_c hn mm ihE i d x y b h0 hin hd0 hd hmu hT
    have hap : SExp 81 A n c mm := fun w U i d x y b h0 hin hd0 hd hmu hT => app_c hn mm hat i d x y b h0 hin hd0 hd hmu hT
    have step : ∀ k, 1 ≤ k → k ≤ 5 → (k ≤ 4 → SRank A n c mm (k + 1)) → SRank A n c mm k := fun k h1 h5 hk w U i d x y b h0 hin hd0 hd hmu hT => rank_c hn mm k h1 h5 hap hk ihR i d x y b h0 hin hd0 hd hmu hT
    have r5 := step 5 (by decide) (by decide) (fun h => absurd h (by decide))
    have r4 := step 4 (by decide) (by decide) (fun _ => r5)
    have r3 := step 3 (by decide) (by decide) (fun _ => r4)
    have r2 := step 2 (by decide) (by decide) (fun _ => r3)
    have r1 := step 1 (by decide) (by decide) (fun _ => r2)
    refine ⟨fun w U i d x y b h0 hin hd0 hd hmu hT => expr_c hn mm r1 ihE i d x y b h0 hin hd0 hd hmu hT, fun k h1 h5 => ?_⟩
    have : k = 1 ∨ k = 2 ∨ k = 3 ∨ k = 4 ∨ k = 5 := by omega
    rcases this with rfl | rfl | rfl | rfl | rfl
    · exact r1
    · exact r2
    · exact r3
    · exact r4
    · exact r5
end Go.Proofs.YtjnjkbmegfkiiaaGreat
