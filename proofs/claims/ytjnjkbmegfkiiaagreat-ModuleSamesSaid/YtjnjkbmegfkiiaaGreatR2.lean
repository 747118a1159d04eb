/- Contracts of the reader of types. -/
import Derived.Test.YtjnjkbmegfkiiaaGreatR1
namespace Go.Proofs.YtjnjkbmegfkiiaaGreat
open Go.RowKit
set_option maxRecDepth 10000
set_option linter.unusedVariables false
set_option linter.unusedSimpArgs false
attribute [local irreducible] Oper.wp Code.wp wpList wpAny wpOp Calls CallsS
/-- A Type, or a TAtom. -/
def STyp (A : Option Addr) (n c : Nat) (mm : Nat) : Prop := ∀ (w : World) (U : Mk) (i d x y : Int) (b at_ : Bool), 0 ≤ i → i ≤ n → 0 ≤ d → d ≤ 40 → mu n i b ≤ mm → Toks A n w U →
  CallsS Tryz.prog 80 [.agg #[.slice A n c, .int .i64 i, .int .i64 d, .bool b, .int .i64 x, .int .i64 y], .bool at_] w U (fun v w' U' => ∃ (i2 : Int) (b2 : Bool) (x2 y2 k m : Int) (s : ByteArray) (B : Option Addr) (l c2 : Nat) (t : TyT), v = .tuple #[.agg #[.slice A n c, .int .i64 i2, .int .i64 d, .bool b2, .int .i64 x2, .int .i64 y2], .agg #[.int .i64 k, .string s, .int .i64 m, .slice B l c2]] ∧ i ≤ i2 ∧ i2 ≤ n ∧ (b2 = true ∨ (b = false ∧ i < i2)) ∧ TRep w' U' [.int .i64 k, .string s, .int .i64 m, .slice B l c2] t)
/-- TAtoms. -/
def STypes (A : Option Addr) (n c : Nat) (mm : Nat) : Prop := ∀ (w : World) (U : Mk) (i d x y : Int) (b : Bool), 0 ≤ i → i ≤ n → 0 ≤ d → d ≤ 40 → mu n i b ≤ mm → Toks A n w U →
  CallsS Tryz.prog 61 [.agg #[.slice A n c, .int .i64 i, .int .i64 d, .bool b, .int .i64 x, .int .i64 y]] w U (fun v w' U' => ∃ (i2 : Int) (b2 : Bool) (x2 y2 : Int) (B : Option Addr) (l c2 : Nat) (ts : List TyT), v = .tuple #[.agg #[.slice A n c, .int .i64 i2, .int .i64 d, .bool b2, .int .i64 x2, .int .i64 y2], .slice B l c2] ∧ i ≤ i2 ∧ i2 ≤ n ∧ (b2 = false → b = false) ∧ Sl kT (.slice B l c2) ts w' U')

theorem typ_c {A : Option Addr} {n c : Nat} (hn : n ≤ 1000000) (mm : Nat) (ih : ∀ m, m < mm → STyp A n c m ∧ STypes A n c m) {w : World} {U : Mk} (i d x y : Int) (b at_ : Bool) (h0 : 0 ≤ i) (hin : i ≤ n) (hd0 : 0 ≤ d) (hd : d ≤ 40) (hmu : mu n i b ≤ mm) (hT : Toks A n w U) :
    CallsS Tryz.prog 80 [.agg #[.slice A n c, .int .i64 i, .int .i64 d, .bool b, .int .i64 x, .int .i64 y], .bool at_] w U (fun v w' U' => ∃ (i2 : Int) (b2 : Bool) (x2 y2 k m : Int) (s : ByteArray) (B : Option Addr) (l c2 : Nat) (t : TyT), v = .tuple #[.agg #[.slice A n c, .int .i64 i2, .int .i64 d, .bool b2, .int .i64 x2, .int .i64 y2], .agg #[.int .i64 k, .string s, .int .i64 m, .slice B l c2]] ∧ i ≤ i2 ∧ i2 ≤ n ∧ (b2 = true ∨ (b = false ∧ i < i2)) ∧ TRep w' U' [.int .i64 k, .string s, .int .i64 m, .slice B l c2] t) := by
  refine x_enter (F := Toks A n) (n := 70) Tryz.func80 rfl rfl (by simp) (.cons (d := 0) rfl (.cons (d := 1) rfl (.nil))) (Toks.mono A n) (hT) ?_
  intro a hst
  refine wp_seq ?_
  refine wp_region_lit ?_
  refine l_op rfl (r_box hst rfl rfl rfl ?_)
  clear hst; intro a w g1 hst
  refine l_op rfl (r_alloc hst Tz48 rfl ?_)
  clear hst; intro a w g2 hst
  refine l_op rfl (r_alloc hst Tz70 rfl ?_)
  clear hst; intro a w g3 hst
  refine wpList_nil ?_
  refine then_n ?_
  refine wp_seq ?_
  refine wp_region_lit ?_
  refine l_op rfl (r_loada hst rfl Ta48 (.tail _ (.tail _ (.head _))) (.cons rfl (.cons rfl (.cons rfl (.cons rfl (.cons rfl (.cons rfl (.nil))))))) rfl rfl ?_)
  clear hst; intro a hst
  refine l_op rfl (r_call (xs := [(Operand.tmp 12)]) hst rfl Ten12 (now_c _ _ _ _ _ (by omega) hn (by first | exact hst.fact | exact hst.fact.2 | exact hst.fact.2.2 | exact hst.fact.2.2.2 | exact hst.fact.2.2.2.2)) rfl ?_)
  clear hst; rintro a _ w U ⟨k1, m1, p1, q1, s1, rfl, hk1⟩ hst
  refine l_op rfl (r_alloc hst Tz50 rfl ?_)
  clear hst; intro a w g4 hst
  refine l_op rfl (r_store hst rfl rfl rfl Tsz50 rfl (.head (.here (.here (.here (.here (.here (.nil (Nat.zero_le _)))))))) ?_)
  clear hst; intro w hst
  refine wpList_nil ?_
  refine then_n ?_
  refine wp_seq ?_
  refine wp_seq ?_
  refine wp_region_lit ?_
  refine l_op rfl (r_fieldAddr hst rfl Tf48_3 rfl ?_)
  clear hst; intro a hst
  refine l_op rfl (r_loads hst rfl Ts4 (.tail _ (.tail _ (.tail _ (.head _)))) rfl rfl ?_)
  clear hst; intro a hst
  refine wpList_nil ?_
  refine then_n ?_
  refine x_cond hst rfl (fun hc1 => ?_) (fun hc1 => ?_)
  · try simp at hc1
    try (have hz := hb1; simp [hc1] at hz)
    refine wp_seq ?_
    refine wp_region_lit ?_
    refine l_op rfl (r_loada hst rfl Ta48 (.tail _ (.tail _ (.tail _ (.head _)))) (.cons rfl (.cons rfl (.cons rfl (.cons rfl (.cons rfl (.cons rfl (.nil))))))) rfl rfl ?_)
    clear hst; intro a hst
    refine l_op rfl (r_build (ps := []) hst Tso70 Tz70 (.nil) rfl ?_)
    clear hst; intro a hst
    refine l_op rfl (r_store hst rfl rfl rfl Tsz48 rfl (.tail (.tail (.head (.here (.here (.here (.here (.here (.here (.nil (Nat.zero_le _))))))))))) ?_)
    clear hst; intro w hst
    refine l_op rfl (r_store hst rfl rfl rfl Tsz70 rfl (.tail (.head (.here (.here (.here (.here (.nil (Nat.zero_le _)))))))) ?_)
    clear hst; intro w hst
    refine wpList_nil ?_
    refine then_n ?_
    refine wp_ret ?_
    refine then_r ?_
    refine x_ret (rs := [.cell 4 48, .cell 5 70]) hst rfl (.agg rfl Ta48 (.tail _ (.tail _ (.head _))) rfl (.agg rfl Ta70 (.tail _ (.head _)) rfl (.nil))) ?_
    first | exact ⟨_, _, _, _, _, _, _, _, _, _, _, rfl, by grind, by grind, by grind, TRep.of_sl (args := []) (Sl.nil _ _ _ _ _)⟩ | exact ⟨_, _, _, _, _, _, _, _, _, _, _, rfl, by grind, by grind, by grind, TRep.of_sl hst.fact.1⟩ | exact ⟨_, _, _, _, _, _, _, _, _, _, _, rfl, by grind, by grind, by grind, hst.fact.1⟩
  try simp at hc1
  try (have hz := hb1; simp [hc1] at hz)
  refine wp_skip ?_
  refine then_n ?_
  refine wp_seq ?_
  refine wp_region_lit ?_
  refine l_op rfl (r_fieldAddr hst rfl Tf50_0 rfl ?_)
  clear hst; intro a hst
  refine l_op rfl (r_loads hst rfl Ts3 (.head _) rfl rfl ?_)
  clear hst; intro a hst
  refine wpList_nil ?_
  refine then_n ?_
  refine wp_block ?_
  refine wp_seq ?_
  refine wp_region_lit ?_
  refine l_op rfl (r_bin hst rfl rfl rfl rfl rfl ?_)
  clear hst; intro a hst
  refine l_op rfl (r_assign hst rfl rfl ?_)
  clear hst; intro a hst
  refine wpList_nil ?_
  refine then_n ?_
  refine x_cond hst rfl (fun hc2 => ?_) (fun hc2 => ?_)
  · try simp at hc2
    try (have hz := hb1; simp [hc2] at hz)
    refine wp_seq ?_
    refine wp_region_lit ?_
    refine l_op rfl (r_fieldAddr hst rfl Tf48_1 rfl ?_)
    clear hst; intro a hst
    refine l_op rfl (r_loads hst rfl Ts3 (.tail _ (.tail _ (.tail _ (.head _)))) rfl rfl ?_)
    clear hst; intro a hst
    refine l_op rfl (r_bin hst rfl rfl rfl rfl rfl ?_)
    clear hst; intro a hst
    rw [wrap_in _ (by omega) (by omega)] at hst
    refine l_op rfl (r_fieldAddr hst rfl Tf48_1 rfl ?_)
    clear hst; intro a hst
    refine l_op rfl (r_store hst rfl rfl rfl Tsz3 rfl (.tail (.tail (.tail (.head (.there (.here (.nil (Nat.zero_le _)))))))) ?_)
    clear hst; intro w hst
    refine wpList_nil ?_
    refine then_n ?_
    refine wp_seq ?_
    refine x_drawh (by kernel_rfl) hst (.cons_cons _ (.cons _ (.cons _ (.cons_cons _ (.slnil))))) ?_
    clear hst; intro w hst
    refine h_take (i := 0) hst (.cons_cons _ (.cons _ (.cons _ (.cons_cons _ (.slnil))))) rfl rfl rfl rfl (by kernel_rfl) (by kernel_rfl) (by kernel_rfl) (fun _ _ _ h => h) (fun _ _ _ _ hst => q_loada hst rfl Ta48 (.tail _ (.head _)) (.cons rfl (.cons rfl (.cons rfl (.cons rfl (.cons rfl (.cons rfl (.nil))))))) rfl) ?_
    clear hst; intro a hst
    refine h_take (i := 1) hst (.cons_cons _ (.cons _ (.cons _ (.cons_cons _ (.slnil))))) rfl rfl rfl rfl (by kernel_rfl) (by kernel_rfl) (by kernel_rfl) (fun _ _ _ h => h) (fun _ _ _ _ hst => q_fieldAddr hst rfl Tf50_1) ?_
    clear hst; intro a hst
    refine h_take (i := 2) hst (.cons_cons _ (.cons _ (.cons _ (.cons_cons _ (.slnil))))) rfl rfl rfl rfl (by kernel_rfl) (by kernel_rfl) (by kernel_rfl) (fun _ _ _ h => h) (fun _ _ _ _ hst => q_loads hst rfl Ts9 (.head _) rfl) ?_
    clear hst; intro a hst
    refine h_take (i := 3) hst (.cons_cons _ (.cons _ (.cons _ (.cons_cons _ (.slnil))))) rfl rfl rfl rfl (by kernel_rfl) (by kernel_rfl) (by kernel_rfl) (fun _ _ _ h => h) (fun _ _ _ _ hst => q_build (ps := [(0, (Operand.const (Value.int IntKind.i64 1))), (1, (Operand.tmp 47))]) hst Tso70 Tz70 (.cons Tf70_0 rfl rfl (.here (.nil (Nat.zero_le _))) (.cons Tf70_1 rfl rfl (.there (.here (.nil (Nat.zero_le _)))) (.nil)))) ?_
    clear hst; intro a hst
    refine h_one (i := 4) (by kernel_rfl) rfl rfl (r_store hst rfl rfl rfl Tsz48 rfl (.tail (.tail (.head (.here (.here (.here (.here (.here (.here (.nil (Nat.zero_le _))))))))))) ?_)
    clear hst; intro w hst
    refine ⟨hst.held (.cons_cons _ (.cons _ (.cons _ (.cons_cons _ (.slnil))))), ?_⟩
    refine h_one (i := 5) (by kernel_rfl) rfl rfl (r_store hst rfl rfl rfl Tsz70 rfl (.tail (.head (.here (.here (.here (.here (.nil (Nat.zero_le _)))))))) ?_)
    clear hst; intro w hst
    refine ⟨hst.held (.cons_cons _ (.cons _ (.cons _ (.cons_cons _ (.slnil))))), ?_⟩
    refine h_done (by kernel_rfl) ?_
    refine then_n ?_
    refine wp_ret ?_
    refine inb_r ?_
    refine x_ret (rs := [.cell 4 48, .cell 5 70]) hst rfl (.agg rfl Ta48 (.tail _ (.tail _ (.head _))) rfl (.agg rfl Ta70 (.tail _ (.head _)) rfl (.nil))) ?_
    first | exact ⟨_, _, _, _, _, _, _, _, _, _, _, rfl, by grind, by grind, by grind, TRep.of_sl (args := []) (Sl.nil _ _ _ _ _)⟩ | exact ⟨_, _, _, _, _, _, _, _, _, _, _, rfl, by grind, by grind, by grind, TRep.of_sl hst.fact.1⟩ | exact ⟨_, _, _, _, _, _, _, _, _, _, _, rfl, by grind, by grind, by grind, hst.fact.1⟩
  try simp at hc2
  try (have hz := hb1; simp [hc2] at hz)
  refine wp_seq ?_
  refine wp_region_lit ?_
  refine l_op rfl (r_bin hst rfl rfl rfl rfl rfl ?_)
  clear hst; intro a hst
  refine l_op rfl (r_assign hst rfl rfl ?_)
  clear hst; intro a hst
  refine wpList_nil ?_
  refine then_n ?_
  refine x_cond hst rfl (fun hc3 => ?_) (fun hc3 => ?_)
  · try simp at hc3
    try (have hz := hb1; simp [hc3] at hz)
    refine wp_seq ?_
    refine wp_region_lit ?_
    refine l_op rfl (r_fieldAddr hst rfl Tf48_1 rfl ?_)
    clear hst; intro a hst
    refine l_op rfl (r_loads hst rfl Ts3 (.tail _ (.tail _ (.tail _ (.head _)))) rfl rfl ?_)
    clear hst; intro a hst
    refine l_op rfl (r_bin hst rfl rfl rfl rfl rfl ?_)
    clear hst; intro a hst
    rw [wrap_in _ (by omega) (by omega)] at hst
    refine l_op rfl (r_fieldAddr hst rfl Tf48_1 rfl ?_)
    clear hst; intro a hst
    refine l_op rfl (r_store hst rfl rfl rfl Tsz3 rfl (.tail (.tail (.tail (.head (.there (.here (.nil (Nat.zero_le _)))))))) ?_)
    clear hst; intro w hst
    refine wpList_nil ?_
    refine then_n ?_
    refine wp_seq ?_
    refine wp_region_lit ?_
    refine l_op rfl (r_fieldAddr hst rfl Tf50_1 rfl ?_)
    clear hst; intro a hst
    refine l_op rfl (r_loads hst rfl Ts9 (.head _) rfl rfl ?_)
    clear hst; intro a hst
    refine l_op rfl (r_build (ps := [(0, (Operand.const (Value.int IntKind.i64 2))), (1, (Operand.tmp 56))]) hst Tso70 Tz70 (.cons Tf70_0 rfl rfl (.here (.nil (Nat.zero_le _))) (.cons Tf70_1 rfl rfl (.there (.here (.nil (Nat.zero_le _)))) (.nil))) rfl ?_)
    clear hst; intro a hst
    refine l_op rfl (r_alloc hst Tz70 rfl ?_)
    clear hst; intro a w g5 hst
    refine l_op rfl (r_store hst rfl rfl rfl Tsz70 rfl (.head (.here (.here (.here (.here (.nil (Nat.zero_le _))))))) ?_)
    clear hst; intro w hst
    refine wpList_nil ?_
    refine then_n ?_
    refine wp_seq ?_
    refine wp_seq ?_
    refine wp_region_lit ?_
    refine l_op rfl (r_move hst rfl rfl ?_)
    clear hst; intro a hst
    refine l_op rfl (r_not hst rfl rfl ?_)
    clear hst; intro a hst
    refine wpList_nil ?_
    refine then_n ?_
    refine x_cond hst rfl (fun hc4 => ?_) (fun hc4 => ?_)
    · try simp at hc4
      try (have hz := hb1; simp [hc4] at hz)
      refine wp_seq ?_
      refine wp_region_lit ?_
      refine l_op rfl (r_loada hst rfl Ta48 (.tail _ (.tail _ (.tail _ (.tail _ (.head _))))) (.cons rfl (.cons rfl (.cons rfl (.cons rfl (.cons rfl (.cons rfl (.nil))))))) rfl rfl ?_)
      clear hst; intro a hst
      refine l_op rfl (r_call (xs := [(Operand.tmp 61)]) hst rfl Ten61 ((ih _ (Nat.lt_of_lt_of_le (by first | exact mu_lt1 (by omega) (by omega) | (rcases hd3 with hd3 | hd3 <;> first | exact mu_lt2 (by omega) (by grind) (by grind) | exact mu_lt1 (by omega) (by omega))) hmu)).2 _ _ _ _ _ _ _ (by omega) (by omega) (by omega) (by omega) (Nat.le_refl _) (by first | exact hst.fact | exact hst.fact.2 | exact hst.fact.2.2 | exact hst.fact.2.2.2 | exact hst.fact.2.2.2.2)) rfl ?_)
      clear hst; rintro a _ w U ⟨i7, b7, x7, y7, B7, l7, c7, ts7, rfl, h7a, h7b, h7c, h7⟩ hst
      have hst := hst.addFact (Sl.mono _ _ _) h7
      refine l_op rfl (r_move hst rfl rfl ?_)
      clear hst; intro a hst
      refine l_op rfl (r_extract hst rfl rfl rfl ?_)
      clear hst; intro a hst
      refine l_op rfl (r_extract hst rfl rfl rfl ?_)
      clear hst; intro a hst
      refine l_op rfl (r_alloc hst Tz48 rfl ?_)
      clear hst; intro a w g6 hst
      refine l_op rfl (r_store hst rfl rfl rfl Tsz48 rfl (.head (.here (.here (.here (.here (.here (.here (.nil (Nat.zero_le _))))))))) ?_)
      clear hst; intro w hst
      refine l_op rfl (r_assign hst rfl rfl ?_)
      clear hst; intro a hst
      refine wpList_nil ?_
      refine then_n ?_
      refine wp_seq ?_
      refine wp_region_lit ?_
      refine l_op rfl (r_loada hst rfl Ta48 (.head _) (.cons rfl (.cons rfl (.cons rfl (.cons rfl (.cons rfl (.cons rfl (.nil))))))) rfl rfl ?_)
      clear hst; intro a hst
      refine l_op rfl (r_store hst rfl rfl rfl Tsz48 rfl (.tail (.tail (.tail (.tail (.tail (.head (.here (.here (.here (.here (.here (.here (.nil (Nat.zero_le _)))))))))))))) ?_)
      clear hst; intro w hst
      refine wpList_nil ?_
      refine then_n ?_
      refine wp_region_lit ?_
      refine l_op rfl (r_move hst rfl rfl ?_)
      clear hst; intro a hst
      refine l_op rfl (r_fieldAddr hst rfl Tf70_3 rfl ?_)
      clear hst; intro a hst
      refine l_op rfl (r_store hst rfl rfl rfl Tsz63 rfl (.tail (.head (.there (.there (.there (.here (.nil (Nat.zero_le _)))))))) ?_)
      clear hst; intro w hst
      refine wpList_nil ?_
      refine then_n ?_
      refine wp_seq ?_
      refine x_drawh (by kernel_rfl) hst (.cons _ (.cons_cons _ (.cons _ (.cons _ (.cons _ (.cons_cons _ (.slnil))))))) ?_
      clear hst; intro w hst
      refine h_take (i := 0) hst (.cons _ (.cons_cons _ (.cons _ (.cons _ (.cons _ (.cons_cons _ (.slnil))))))) rfl rfl rfl rfl (by kernel_rfl) (by kernel_rfl) (by kernel_rfl) (fun _ _ _ h => h) (fun _ _ _ _ hst => q_loada hst rfl Ta48 (.tail _ (.head _)) (.cons rfl (.cons rfl (.cons rfl (.cons rfl (.cons rfl (.cons rfl (.nil))))))) rfl) ?_
      clear hst; intro a hst
      refine h_take (i := 1) hst (.cons _ (.cons_cons _ (.cons _ (.cons _ (.cons _ (.cons_cons _ (.slnil))))))) rfl rfl rfl rfl (by kernel_rfl) (by kernel_rfl) (by kernel_rfl) (fun _ _ _ h => h) (fun _ _ _ _ hst => q_loada hst rfl Ta70 (.head _) (.cons rfl (.cons rfl (.cons rfl (.cons rfl (.nil))))) rfl) ?_
      clear hst; intro a hst
      refine h_one (i := 2) (by kernel_rfl) rfl rfl (r_store hst rfl rfl rfl Tsz48 rfl (.tail (.tail (.tail (.tail (.head (.here (.here (.here (.here (.here (.here (.nil (Nat.zero_le _))))))))))))) ?_)
      clear hst; intro w hst
      refine ⟨hst.held (.cons _ (.cons_cons _ (.cons _ (.cons _ (.cons _ (.cons_cons _ (.slnil))))))), ?_⟩
      refine h_one (i := 3) (by kernel_rfl) rfl rfl (r_store hst rfl rfl rfl Tsz70 rfl (.tail (.tail (.tail (.head (.here (.here (.here (.here (.nil (Nat.zero_le _)))))))))) ?_)
      clear hst; intro w hst
      refine ⟨hst.held (.cons _ (.cons_cons _ (.cons _ (.cons _ (.cons _ (.cons_cons _ (.slnil))))))), ?_⟩
      refine h_done (by kernel_rfl) ?_
      refine then_n ?_
      refine wp_ret ?_
      refine inb_r ?_
      refine x_ret (rs := [.cell 4 48, .cell 5 70]) hst rfl (.agg rfl Ta48 (.tail _ (.tail _ (.tail _ (.tail _ (.head _))))) rfl (.agg rfl Ta70 (.tail _ (.tail _ (.tail _ (.head _)))) rfl (.nil))) ?_
      first | exact ⟨_, _, _, _, _, _, _, _, _, _, _, rfl, by grind, by grind, by grind, TRep.of_sl (args := []) (Sl.nil _ _ _ _ _)⟩ | exact ⟨_, _, _, _, _, _, _, _, _, _, _, rfl, by grind, by grind, by grind, TRep.of_sl hst.fact.1⟩ | exact ⟨_, _, _, _, _, _, _, _, _, _, _, rfl, by grind, by grind, by grind, hst.fact.1⟩
    try simp at hc4
    try (have hz := hb1; simp [hc4] at hz)
    refine wp_skip ?_
    refine then_n ?_
    refine wp_seq ?_
    refine x_drawh (by kernel_rfl) hst (.cons_cons _ (.cons _ (.cons _ (.cons _ (.cons_cons _ (.slnil)))))) ?_
    clear hst; intro w hst
    refine h_take (i := 0) hst (.cons_cons _ (.cons _ (.cons _ (.cons _ (.cons_cons _ (.slnil)))))) rfl rfl rfl rfl (by kernel_rfl) (by kernel_rfl) (by kernel_rfl) (fun _ _ _ h => h) (fun _ _ _ _ hst => q_loada hst rfl Ta48 (.tail _ (.head _)) (.cons rfl (.cons rfl (.cons rfl (.cons rfl (.cons rfl (.cons rfl (.nil))))))) rfl) ?_
    clear hst; intro a hst
    refine h_take (i := 1) hst (.cons_cons _ (.cons _ (.cons _ (.cons _ (.cons_cons _ (.slnil)))))) rfl rfl rfl rfl (by kernel_rfl) (by kernel_rfl) (by kernel_rfl) (fun _ _ _ h => h) (fun _ _ _ _ hst => q_loada hst rfl Ta70 (.head _) (.cons rfl (.cons rfl (.cons rfl (.cons rfl (.nil))))) rfl) ?_
    clear hst; intro a hst
    refine h_one (i := 2) (by kernel_rfl) rfl rfl (r_store hst rfl rfl rfl Tsz48 rfl (.tail (.tail (.tail (.head (.here (.here (.here (.here (.here (.here (.nil (Nat.zero_le _)))))))))))) ?_)
    clear hst; intro w hst
    refine ⟨hst.held (.cons_cons _ (.cons _ (.cons _ (.cons _ (.cons_cons _ (.slnil)))))), ?_⟩
    refine h_one (i := 3) (by kernel_rfl) rfl rfl (r_store hst rfl rfl rfl Tsz70 rfl (.tail (.tail (.head (.here (.here (.here (.here (.nil (Nat.zero_le _))))))))) ?_)
    clear hst; intro w hst
    refine ⟨hst.held (.cons_cons _ (.cons _ (.cons _ (.cons _ (.cons_cons _ (.slnil)))))), ?_⟩
    refine h_done (by kernel_rfl) ?_
    refine then_n ?_
    refine wp_ret ?_
    refine inb_r ?_
    refine x_ret (rs := [.cell 4 48, .cell 5 70]) hst rfl (.agg rfl Ta48 (.tail _ (.tail _ (.tail _ (.head _)))) rfl (.agg rfl Ta70 (.tail _ (.tail _ (.head _))) rfl (.nil))) ?_
    first | exact ⟨_, _, _, _, _, _, _, _, _, _, _, rfl, by grind, by grind, by grind, TRep.of_sl (args := []) (Sl.nil _ _ _ _ _)⟩ | exact ⟨_, _, _, _, _, _, _, _, _, _, _, rfl, by grind, by grind, by grind, TRep.of_sl hst.fact.1⟩ | exact ⟨_, _, _, _, _, _, _, _, _, _, _, rfl, by grind, by grind, by grind, hst.fact.1⟩
  try simp at hc3
  try (have hz := hb1; simp [hc3] at hz)
  refine wp_seq ?_
  refine wp_seq ?_
  refine wp_region_lit ?_
  refine l_op rfl (r_loada hst rfl Ta48 (.tail _ (.tail _ (.tail _ (.head _)))) (.cons rfl (.cons rfl (.cons rfl (.cons rfl (.cons rfl (.cons rfl (.nil))))))) rfl rfl ?_)
  clear hst; intro a hst
  refine l_op rfl (r_call (xs := [(Operand.tmp 20), (Operand.const (Value.int IntKind.i64 6)), (Operand.const (Value.string { data := #[40] }))]) hst rfl Ten14 (is_c _ _ _ _ _ _ _ (by omega) hn (by first | exact hst.fact | exact hst.fact.2 | exact hst.fact.2.2 | exact hst.fact.2.2.2 | exact hst.fact.2.2.2.2) (by decide)) rfl ?_)
  clear hst; rintro a _ w U ⟨b1, rfl, hb1⟩ hst
  refine l_op rfl (r_not hst rfl rfl ?_)
  clear hst; intro a hst
  refine wpList_nil ?_
  refine then_n ?_
  refine x_cond hst rfl (fun hc5 => ?_) (fun hc5 => ?_)
  · try simp at hc5
    try (have hz := hb1; simp [hc5] at hz)
    refine wp_seq ?_
    refine wp_region_lit ?_
    refine l_op rfl (r_loada hst rfl Ta48 (.tail _ (.tail _ (.tail _ (.head _)))) (.cons rfl (.cons rfl (.cons rfl (.cons rfl (.cons rfl (.cons rfl (.nil))))))) rfl rfl ?_)
    clear hst; intro a hst
    refine l_op rfl (r_call (xs := [(Operand.tmp 23)]) hst rfl Ten39 (fail_c _ _ _ _ _ (by omega) hn (by first | exact hst.fact | exact hst.fact.2 | exact hst.fact.2.2 | exact hst.fact.2.2.2 | exact hst.fact.2.2.2.2)) rfl ?_)
    clear hst; rintro a _ w U ⟨xf, yf, rfl⟩ hst
    refine l_op rfl (r_build (ps := []) hst Tso70 Tz70 (.nil) rfl ?_)
    clear hst; intro a hst
    refine l_op rfl (r_store hst rfl rfl rfl Tsz48 rfl (.tail (.tail (.head (.here (.here (.here (.here (.here (.here (.nil (Nat.zero_le _))))))))))) ?_)
    clear hst; intro w hst
    refine l_op rfl (r_store hst rfl rfl rfl Tsz70 rfl (.tail (.head (.here (.here (.here (.here (.nil (Nat.zero_le _)))))))) ?_)
    clear hst; intro w hst
    refine wpList_nil ?_
    refine then_n ?_
    refine wp_ret ?_
    refine then_r ?_
    refine inb_r ?_
    refine x_ret (rs := [.cell 4 48, .cell 5 70]) hst rfl (.agg rfl Ta48 (.tail _ (.tail _ (.head _))) rfl (.agg rfl Ta70 (.tail _ (.head _)) rfl (.nil))) ?_
    first | exact ⟨_, _, _, _, _, _, _, _, _, _, _, rfl, by grind, by grind, by grind, TRep.of_sl (args := []) (Sl.nil _ _ _ _ _)⟩ | exact ⟨_, _, _, _, _, _, _, _, _, _, _, rfl, by grind, by grind, by grind, TRep.of_sl hst.fact.1⟩ | exact ⟨_, _, _, _, _, _, _, _, _, _, _, rfl, by grind, by grind, by grind, hst.fact.1⟩
  try simp at hc5
  try (have hz := hb1; simp [hc5] at hz)
  refine wp_skip ?_
  refine then_n ?_
  refine wp_seq ?_
  refine wp_region_lit ?_
  refine l_op rfl (r_loada hst rfl Ta48 (.tail _ (.tail _ (.tail _ (.head _)))) (.cons rfl (.cons rfl (.cons rfl (.cons rfl (.cons rfl (.cons rfl (.nil))))))) rfl rfl ?_)
  clear hst; intro a hst
  refine l_op rfl (r_call (xs := [(Operand.tmp 27)]) hst rfl Ten63 (down_c _ _ _ _ _ (by omega) hn (by first | exact hst.fact | exact hst.fact.2 | exact hst.fact.2.2 | exact hst.fact.2.2.2 | exact hst.fact.2.2.2.2) (by omega) (by omega) (by omega)) rfl ?_)
  clear hst; rintro a _ w U ⟨i3, d3, b3, x3, y3, rfl, hd3⟩ hst
  refine l_op rfl (r_call (xs := [(Operand.tmp 28), (Operand.const (Value.bool false))]) hst rfl Ten80 ((ih _ (Nat.lt_of_lt_of_le (by first | exact mu_lt1 (by omega) (by omega) | (rcases hd3 with hd3 | hd3 <;> first | exact mu_lt2 (by omega) (by grind) (by grind) | exact mu_lt1 (by omega) (by omega))) hmu)).1 _ _ _ _ _ _ _ _ (by omega) (by omega) (by omega) (by omega) (Nat.le_refl _) (by first | exact hst.fact | exact hst.fact.2 | exact hst.fact.2.2 | exact hst.fact.2.2.2 | exact hst.fact.2.2.2.2)) rfl ?_)
  clear hst; rintro a _ w U ⟨i8, b8, x8, y8, k8, m8, s8, B8, l8, c8, t8, rfl, h8a, h8b, h8c, h8⟩ hst
  have hst := hst.addFact (TRep.mono _ _) h8
  refine l_op rfl (r_move hst rfl rfl ?_)
  clear hst; intro a hst
  refine l_op rfl (r_extract hst rfl rfl rfl ?_)
  clear hst; intro a hst
  refine l_op rfl (r_extract hst rfl rfl rfl ?_)
  clear hst; intro a hst
  refine l_op rfl (r_alloc hst Tz48 rfl ?_)
  clear hst; intro a w g5 hst
  refine l_op rfl (r_alloc hst Tz70 rfl ?_)
  clear hst; intro a w g6 hst
  refine l_op rfl (r_store hst rfl rfl rfl Tsz48 rfl (.tail (.head (.here (.here (.here (.here (.here (.here (.nil (Nat.zero_le _)))))))))) ?_)
  clear hst; intro w hst
  refine l_op rfl (r_store hst rfl rfl rfl Tsz70 rfl (.head (.here (.here (.here (.here (.nil (Nat.zero_le _))))))) ?_)
  clear hst; intro w hst
  refine wpList_nil ?_
  refine then_n ?_
  refine wp_seq ?_
  refine wp_region_lit ?_
  refine l_op rfl (r_loada hst rfl Ta48 (.tail _ (.head _)) (.cons rfl (.cons rfl (.cons rfl (.cons rfl (.cons rfl (.cons rfl (.nil))))))) rfl rfl ?_)
  clear hst; intro a hst
  refine l_op rfl (r_call (xs := [(Operand.tmp 32), (Operand.const (Value.int IntKind.i64 6)), (Operand.const (Value.string { data := #[41] }))]) hst rfl Ten13 (take_c _ _ _ _ _ _ _ (by omega) hn (by first | exact hst.fact | exact hst.fact.2 | exact hst.fact.2.2 | exact hst.fact.2.2.2 | exact hst.fact.2.2.2.2) (by omega) (by decide)) rfl ?_)
  clear hst; rintro a _ w U ⟨i1, b1, x1, y1, rfl, ht1⟩ hst
  refine l_op rfl (r_store hst rfl rfl rfl Tsz48 rfl (.tail (.head (.here (.here (.here (.here (.here (.here (.nil (Nat.zero_le _)))))))))) ?_)
  clear hst; intro w hst
  refine wpList_nil ?_
  refine then_n ?_
  refine wp_seq ?_
  refine wp_region_lit ?_
  refine l_op rfl (r_fieldAddr hst rfl Tf48_2 rfl ?_)
  clear hst; intro a hst
  refine l_op rfl (r_loads hst rfl Ts3 (.tail _ (.tail _ (.tail _ (.tail _ (.tail _ (.head _)))))) rfl rfl ?_)
  clear hst; intro a hst
  refine l_op rfl (r_fieldAddr hst rfl Tf48_2 rfl ?_)
  clear hst; intro a hst
  refine l_op rfl (r_store hst rfl rfl rfl Tsz3 rfl (.tail (.head (.there (.there (.here (.nil (Nat.zero_le _))))))) ?_)
  clear hst; intro w hst
  refine wpList_nil ?_
  refine then_n ?_
  refine wp_seq ?_
  refine x_drawh (by kernel_rfl) hst (.cons_cons _ (.cons_cons _ (.cons _ (.cons _ (.cons _ (.cons _ (.slnil))))))) ?_
  clear hst; intro w hst
  refine h_take (i := 0) hst (.cons_cons _ (.cons_cons _ (.cons _ (.cons _ (.cons _ (.cons _ (.slnil))))))) rfl rfl rfl rfl (by kernel_rfl) (by kernel_rfl) (by kernel_rfl) (fun _ _ _ h => h) (fun _ _ _ _ hst => q_loada hst rfl Ta48 (.tail _ (.head _)) (.cons rfl (.cons rfl (.cons rfl (.cons rfl (.cons rfl (.cons rfl (.nil))))))) rfl) ?_
  clear hst; intro a hst
  refine h_take (i := 1) hst (.cons_cons _ (.cons_cons _ (.cons _ (.cons _ (.cons _ (.cons _ (.slnil))))))) rfl rfl rfl rfl (by kernel_rfl) (by kernel_rfl) (by kernel_rfl) (fun _ _ _ h => h) (fun _ _ _ _ hst => q_loada hst rfl Ta70 (.head _) (.cons rfl (.cons rfl (.cons rfl (.cons rfl (.nil))))) rfl) ?_
  clear hst; intro a hst
  refine h_one (i := 2) (by kernel_rfl) rfl rfl (r_store hst rfl rfl rfl Tsz48 rfl (.tail (.tail (.tail (.tail (.head (.here (.here (.here (.here (.here (.here (.nil (Nat.zero_le _))))))))))))) ?_)
  clear hst; intro w hst
  refine ⟨hst.held (.cons_cons _ (.cons_cons _ (.cons _ (.cons _ (.cons _ (.cons _ (.slnil))))))), ?_⟩
  refine h_one (i := 3) (by kernel_rfl) rfl rfl (r_store hst rfl rfl rfl Tsz70 rfl (.tail (.tail (.tail (.head (.here (.here (.here (.here (.nil (Nat.zero_le _)))))))))) ?_)
  clear hst; intro w hst
  refine ⟨hst.held (.cons_cons _ (.cons_cons _ (.cons _ (.cons _ (.cons _ (.cons _ (.slnil))))))), ?_⟩
  refine h_done (by kernel_rfl) ?_
  refine then_n ?_
  refine wp_ret ?_
  refine inb_r ?_
  refine x_ret (rs := [.cell 4 48, .cell 5 70]) hst rfl (.agg rfl Ta48 (.tail _ (.tail _ (.tail _ (.tail _ (.head _))))) rfl (.agg rfl Ta70 (.tail _ (.tail _ (.tail _ (.head _)))) rfl (.nil))) ?_
  first | exact ⟨_, _, _, _, _, _, _, _, _, _, _, rfl, by grind, by grind, by grind, TRep.of_sl (args := []) (Sl.nil _ _ _ _ _)⟩ | exact ⟨_, _, _, _, _, _, _, _, _, _, _, rfl, by grind, by grind, by grind, TRep.of_sl hst.fact.1⟩ | exact ⟨_, _, _, _, _, _, _, _, _, _, _, rfl, by grind, by grind, by grind, hst.fact.1⟩

/-- What holds at the head of the loop over TAtoms. -/
def InvTypes (w0 : World) (U0 : Mk) (A : Option Addr) (n c : Nat) (i d : Int) (b : Bool) (g1 g2 : Nat) (m : Nat) (a : Act) (w : World) : Prop :=
  ∃ (U : Mk) (i' x' y' : Int) (b' : Bool) (B : Option Addr) (l cc : Nat) (xs : List Value) (ts : List TyT),
    Sta w0 U0 38 [(1, .pointer (some ⟨g1, 0, none⟩)), (2, .pointer (some ⟨g2, 0, none⟩)), (3, .slice none 0 0), (4, .slice B l cc)] [⟨g2, 48, [.slice none 0 0, .int .i64 0, .int .i64 0, .bool false, .int .i64 0, .int .i64 0]⟩, ⟨g1, 48, [.slice A n c, .int .i64 i', .int .i64 d, .bool b', .int .i64 x', .int .i64 y']⟩] [⟨.slice B l cc, 70, 4, l⟩] (fun w U => (Cont (.slice B l cc) xs w U ∧ Flat kT xs ts w U) ∧ Toks A n w U) a w U ∧
    i ≤ i' ∧ i' ≤ n ∧ ts.length = l ∧ l ≤ cc ∧ xs.length = l * 4 ∧ l + mu n i' b' ≤ 2 * n + 1 ∧ (b' = false → b = false) ∧ m = mu n i' b'

theorem types_c {A : Option Addr} {n c : Nat} (hn : n ≤ 1000000) (mm : Nat) (hty : STyp A n c mm) {w : World} {U : Mk} (i d x y : Int) (b : Bool) (h0 : 0 ≤ i) (hin : i ≤ n) (hd0 : 0 ≤ d) (hd : d ≤ 40) (hmu : mu n i b ≤ mm) (hT : Toks A n w U) :
    CallsS Tryz.prog 61 [.agg #[.slice A n c, .int .i64 i, .int .i64 d, .bool b, .int .i64 x, .int .i64 y]] w U (fun v w' U' => ∃ (i2 : Int) (b2 : Bool) (x2 y2 : Int) (B : Option Addr) (l c2 : Nat) (ts : List TyT), v = .tuple #[.agg #[.slice A n c, .int .i64 i2, .int .i64 d, .bool b2, .int .i64 x2, .int .i64 y2], .slice B l c2] ∧ i ≤ i2 ∧ i2 ≤ n ∧ (b2 = false → b = false) ∧ Sl kT (.slice B l c2) ts w' U') := by
  refine x_enter (F := Toks A n) (n := 38) Tryz.func61 rfl rfl (by simp) (.cons (d := 0) rfl (.nil)) (Toks.mono A n) (hT) ?_
  intro a hst
  refine wp_seq ?_
  refine wp_region_lit ?_
  refine l_op rfl (r_box hst rfl rfl rfl ?_)
  clear hst; intro a w g1 hst
  refine l_op rfl (r_alloc hst Tz48 rfl ?_)
  clear hst; intro a w g2 hst
  refine l_op rfl (r_assign hst rfl rfl ?_)
  clear hst; intro a hst
  refine wpList_nil ?_
  refine then_n ?_
  refine wp_seq ?_
  refine wp_region_lit ?_
  refine l_op rfl (r_assign hst rfl rfl ?_)
  clear hst; intro a hst
  refine wpList_nil ?_
  refine then_n ?_
  refine wp_seq ?_
  refine wp_block ?_
  have hst := (hst.keep (ds := [1, 2, 3, 4]) (.cons rfl (.cons rfl (.cons rfl (.cons rfl (.nil)))))).row_nil 70 (sz := 4) (by decide)
  have hst := hst.newFact ((Mono.and (Mono.and (Cont.mono (.slice none 0 0) []) (Flat.mono kT [] [])) (Toks.mono A n))) ⟨⟨Cont.nil _ _ _, Flat.nil _ _ _⟩, hst.fact⟩
  refine wp_loop_ghost (InvTypes _ _ A n c i d b g1 g2) (mu n i b) ⟨_, _, _, _, _, _, _, _, _, _, hst, by omega, by omega, rfl, by omega, rfl, by have := mu_bd n i b h0; omega, fun h => h, rfl⟩ ?_
  clear hst
  rintro m a w ⟨U, i', x', y', b', B, l, cc, xs, ts, hst, hi1, hi2, hl, hcc, hxl, hlm, hbb, rfl⟩
  refine wp_seq ?_
  refine wp_seq ?_
  refine wp_region_lit ?_
  refine l_op rfl (r_fieldAddr hst rfl Tf48_3 rfl ?_)
  clear hst; intro a hst
  refine l_op rfl (r_loads hst rfl Ts4 (.tail _ (.head _)) rfl rfl ?_)
  clear hst; intro a hst
  refine l_op rfl (r_not hst rfl rfl ?_)
  clear hst; intro a hst
  refine l_op rfl (r_move hst rfl rfl ?_)
  clear hst; intro a hst
  refine hst.split (t := 10) rfl (fun hc1 hst => ?_) (fun hc1 hst => ?_)
  · try simp at hc1
    try (have hz := hb1; simp [hc1] at hz)
    refine l_on hst rfl rfl rfl (r_loada hst rfl Ta48 (.tail _ (.head _)) (.cons rfl (.cons rfl (.cons rfl (.cons rfl (.cons rfl (.cons rfl (.nil))))))) rfl rfl ?_)
    clear hst; intro a hst
    refine l_on hst rfl rfl rfl (r_call (xs := [(Operand.tmp 11)]) hst rfl Ten12 (now_c _ _ _ _ _ (by omega) hn (by first | exact hst.fact | exact hst.fact.2 | exact hst.fact.2.2 | exact hst.fact.2.2.2 | exact hst.fact.2.2.2.2)) rfl ?_)
    clear hst; rintro a _ w U ⟨k1, m1, p1, q1, s1, rfl, hk1⟩ hst
    refine l_on hst rfl rfl rfl (r_fields hst rfl Tfs50_0 rfl rfl ?_)
    clear hst; intro a hst
    refine l_on hst rfl rfl rfl (r_bin hst rfl rfl rfl rfl rfl ?_)
    clear hst; intro a hst
    refine l_on hst rfl rfl rfl (r_move hst rfl rfl ?_)
    clear hst; intro a hst
    refine hst.split (t := 15) rfl (fun hc2 hst => ?_) (fun hc2 hst => ?_)
    · try simp at hc2
      try (have hz := hb1; simp [hc2] at hz)
      refine l_off hst rfl rfl rfl (by decide) rfl rfl ?_
      clear hst; intro a hst
      refine l_off hst rfl rfl rfl (by decide) rfl rfl ?_
      clear hst; intro a hst
      refine l_off hst rfl rfl rfl (by decide) rfl rfl ?_
      clear hst; intro a hst
      refine l_off hst rfl rfl rfl (by decide) rfl rfl ?_
      clear hst; intro a hst
      refine l_on hst rfl rfl rfl (r_pick hst rfl rfl rfl ?_)
      clear hst; intro a hst
      refine l_on hst rfl rfl rfl (r_move hst rfl rfl ?_)
      clear hst; intro a hst
      refine l_off hst rfl rfl rfl (by decide) rfl rfl ?_
      clear hst; intro a hst
      refine l_off hst rfl rfl rfl (by decide) rfl rfl ?_
      clear hst; intro a hst
      refine l_on hst rfl rfl rfl (r_pick hst rfl rfl rfl ?_)
      clear hst; intro a hst
      refine l_op rfl (r_pick hst rfl rfl rfl ?_)
      clear hst; intro a hst
      refine wpList_nil ?_
      refine then_n ?_
      refine x_cond_t hst rfl ?_
      refine wp_skip ?_
      refine then_n ?_
      refine wp_block ?_
      refine wp_seq ?_
      refine wp_region_lit ?_
      refine l_op rfl (r_loada hst rfl Ta48 (.tail _ (.head _)) (.cons rfl (.cons rfl (.cons rfl (.cons rfl (.cons rfl (.cons rfl (.nil))))))) rfl rfl ?_)
      clear hst; intro a hst
      refine l_op rfl (r_call (xs := [(Operand.tmp 27), (Operand.const (Value.bool true))]) hst rfl Ten80 (hty _ _ _ _ _ _ _ _ (by omega) (by omega) (by omega) (by omega) (Nat.le_trans (mu_le (by omega) (by grind)) hmu) (by first | exact hst.fact | exact hst.fact.2 | exact hst.fact.2.2 | exact hst.fact.2.2.2 | exact hst.fact.2.2.2.2)) rfl ?_)
      clear hst; rintro a _ w U ⟨i8, b8, x8, y8, k8, m8, s8, B8, l8, c8, t8, rfl, h8a, h8b, h8c, h8⟩ hst
      have hst := hst.addFact (TRep.mono _ _) h8
      refine l_op rfl (r_move hst rfl rfl ?_)
      clear hst; intro a hst
      refine l_op rfl (r_extract hst rfl rfl rfl ?_)
      clear hst; intro a hst
      refine l_op rfl (r_extract hst rfl rfl rfl ?_)
      clear hst; intro a hst
      refine l_op rfl (r_alloc hst Tz48 rfl ?_)
      clear hst; intro a w g3 hst
      refine l_op rfl (r_alloc hst Tz70 rfl ?_)
      clear hst; intro a w g4 hst
      refine l_op rfl (r_store hst rfl rfl rfl Tsz48 rfl (.tail (.head (.here (.here (.here (.here (.here (.here (.nil (Nat.zero_le _)))))))))) ?_)
      clear hst; intro w hst
      refine l_op rfl (r_store hst rfl rfl rfl Tsz70 rfl (.head (.here (.here (.here (.here (.nil (Nat.zero_le _))))))) ?_)
      clear hst; intro w hst
      refine wpList_nil ?_
      refine then_n ?_
      refine wp_seq ?_
      refine wp_region_lit ?_
      refine l_op rfl (r_loada hst rfl Ta48 (.tail _ (.head _)) (.cons rfl (.cons rfl (.cons rfl (.cons rfl (.cons rfl (.cons rfl (.nil))))))) rfl rfl ?_)
      clear hst; intro a hst
      refine l_op rfl (r_store hst rfl rfl rfl Tsz48 rfl (.tail (.tail (.tail (.head (.here (.here (.here (.here (.here (.here (.nil (Nat.zero_le _)))))))))))) ?_)
      clear hst; intro w hst
      refine wpList_nil ?_
      refine then_n ?_
      refine wp_region_lit ?_
      refine l_op rfl (r_move hst rfl rfl ?_)
      clear hst; intro a hst
      refine l_op rfl (r_loada hst rfl Ta70 (.head _) (.cons rfl (.cons rfl (.cons rfl (.cons rfl (.nil))))) rfl rfl ?_)
      clear hst; intro a hst
      refine l_op rfl (r_slice1 hst Tu63 Tsz70 Tz70 rfl (by decide) (by decide) rfl rfl rfl rfl ?_)
      clear hst; intro a w g5 hst
      refine l_op rfl (r_append hst rfl rfl Tet63 (.head _) rfl (by decide) rfl hst.fact.2.1.1 hxl (by omega) (by omega) rfl ?_)
      clear hst; intro a v w U hext hcont hv hst
      obtain ⟨B2, c2, rfl, hcc2⟩ := hv
      refine l_op rfl (r_assign hst rfl rfl ?_)
      clear hst; intro a hst
      refine wpList_nil ?_
      refine inb_n ?_
      have hst := ((hst.keep (ds := [1, 2, 3, 4]) (.cons rfl (.cons rfl (.cons rfl (.cons rfl (.nil)))))).drop (.cons _ (.cons _ (.cons _ (.cons_cons _ (.cons_cons _ (.slnil)))))))
      have hfl := Flat.snoc (hst.fact.2.1.2) hst.fact.1
      have hst := hst.newFact ((Mono.and (Mono.and (Cont.mono _ _) (Flat.mono _ _ _)) (Toks.mono _ _))) ⟨⟨hcont, hfl⟩, hst.fact.2.2⟩
      have hmm : mu n i8 b8 < mu n i' b' := by rcases h8c with h8c | h8c <;> first | exact mu_lt2 h8a (by grind) h8c | exact mu_lt1 (by omega) (by omega)
      exact then_k ⟨mu n i8 b8, hmm, _, i8, x8, y8, b8, _, _, _, _, _, hst, by omega, by omega, by simp [hl], hcc2, by simp [hxl]; omega, by omega, by grind, rfl⟩
    try simp at hc2
    try (have hz := hb1; simp [hc2] at hz)
    refine l_on hst rfl rfl rfl (r_loada hst rfl Ta48 (.tail _ (.head _)) (.cons rfl (.cons rfl (.cons rfl (.cons rfl (.cons rfl (.cons rfl (.nil))))))) rfl rfl ?_)
    clear hst; intro a hst
    refine l_on hst rfl rfl rfl (r_call (xs := [(Operand.tmp 16)]) hst rfl Ten12 (now_c _ _ _ _ _ (by omega) hn (by first | exact hst.fact | exact hst.fact.2 | exact hst.fact.2.2 | exact hst.fact.2.2.2 | exact hst.fact.2.2.2.2)) rfl ?_)
    clear hst; rintro a _ w U ⟨k1, m1, p1, q1, s1, rfl, hk1⟩ hst
    refine l_on hst rfl rfl rfl (r_fields hst rfl Tfs50_0 rfl rfl ?_)
    clear hst; intro a hst
    refine l_on hst rfl rfl rfl (r_bin hst rfl rfl rfl rfl rfl ?_)
    clear hst; intro a hst
    refine l_on hst rfl rfl rfl (r_pick hst rfl rfl rfl ?_)
    clear hst; intro a hst
    refine l_on hst rfl rfl rfl (r_move hst rfl rfl ?_)
    clear hst; intro a hst
    refine hst.split (t := 21) rfl (fun hc3 hst => ?_) (fun hc3 hst => ?_)
    · try simp at hc3
      try (have hz := hb1; simp [hc3] at hz)
      refine l_off hst rfl rfl rfl (by decide) rfl rfl ?_
      clear hst; intro a hst
      refine l_off hst rfl rfl rfl (by decide) rfl rfl ?_
      clear hst; intro a hst
      refine l_on hst rfl rfl rfl (r_pick hst rfl rfl rfl ?_)
      clear hst; intro a hst
      refine l_op rfl (r_pick hst rfl rfl rfl ?_)
      clear hst; intro a hst
      refine wpList_nil ?_
      refine then_n ?_
      refine x_cond_t hst rfl ?_
      refine wp_skip ?_
      refine then_n ?_
      refine wp_block ?_
      refine wp_seq ?_
      refine wp_region_lit ?_
      refine l_op rfl (r_loada hst rfl Ta48 (.tail _ (.head _)) (.cons rfl (.cons rfl (.cons rfl (.cons rfl (.cons rfl (.cons rfl (.nil))))))) rfl rfl ?_)
      clear hst; intro a hst
      refine l_op rfl (r_call (xs := [(Operand.tmp 27), (Operand.const (Value.bool true))]) hst rfl Ten80 (hty _ _ _ _ _ _ _ _ (by omega) (by omega) (by omega) (by omega) (Nat.le_trans (mu_le (by omega) (by grind)) hmu) (by first | exact hst.fact | exact hst.fact.2 | exact hst.fact.2.2 | exact hst.fact.2.2.2 | exact hst.fact.2.2.2.2)) rfl ?_)
      clear hst; rintro a _ w U ⟨i8, b8, x8, y8, k8, m8, s8, B8, l8, c8, t8, rfl, h8a, h8b, h8c, h8⟩ hst
      have hst := hst.addFact (TRep.mono _ _) h8
      refine l_op rfl (r_move hst rfl rfl ?_)
      clear hst; intro a hst
      refine l_op rfl (r_extract hst rfl rfl rfl ?_)
      clear hst; intro a hst
      refine l_op rfl (r_extract hst rfl rfl rfl ?_)
      clear hst; intro a hst
      refine l_op rfl (r_alloc hst Tz48 rfl ?_)
      clear hst; intro a w g3 hst
      refine l_op rfl (r_alloc hst Tz70 rfl ?_)
      clear hst; intro a w g4 hst
      refine l_op rfl (r_store hst rfl rfl rfl Tsz48 rfl (.tail (.head (.here (.here (.here (.here (.here (.here (.nil (Nat.zero_le _)))))))))) ?_)
      clear hst; intro w hst
      refine l_op rfl (r_store hst rfl rfl rfl Tsz70 rfl (.head (.here (.here (.here (.here (.nil (Nat.zero_le _))))))) ?_)
      clear hst; intro w hst
      refine wpList_nil ?_
      refine then_n ?_
      refine wp_seq ?_
      refine wp_region_lit ?_
      refine l_op rfl (r_loada hst rfl Ta48 (.tail _ (.head _)) (.cons rfl (.cons rfl (.cons rfl (.cons rfl (.cons rfl (.cons rfl (.nil))))))) rfl rfl ?_)
      clear hst; intro a hst
      refine l_op rfl (r_store hst rfl rfl rfl Tsz48 rfl (.tail (.tail (.tail (.head (.here (.here (.here (.here (.here (.here (.nil (Nat.zero_le _)))))))))))) ?_)
      clear hst; intro w hst
      refine wpList_nil ?_
      refine then_n ?_
      refine wp_region_lit ?_
      refine l_op rfl (r_move hst rfl rfl ?_)
      clear hst; intro a hst
      refine l_op rfl (r_loada hst rfl Ta70 (.head _) (.cons rfl (.cons rfl (.cons rfl (.cons rfl (.nil))))) rfl rfl ?_)
      clear hst; intro a hst
      refine l_op rfl (r_slice1 hst Tu63 Tsz70 Tz70 rfl (by decide) (by decide) rfl rfl rfl rfl ?_)
      clear hst; intro a w g5 hst
      refine l_op rfl (r_append hst rfl rfl Tet63 (.head _) rfl (by decide) rfl hst.fact.2.1.1 hxl (by omega) (by omega) rfl ?_)
      clear hst; intro a v w U hext hcont hv hst
      obtain ⟨B2, c2, rfl, hcc2⟩ := hv
      refine l_op rfl (r_assign hst rfl rfl ?_)
      clear hst; intro a hst
      refine wpList_nil ?_
      refine inb_n ?_
      have hst := ((hst.keep (ds := [1, 2, 3, 4]) (.cons rfl (.cons rfl (.cons rfl (.cons rfl (.nil)))))).drop (.cons _ (.cons _ (.cons _ (.cons_cons _ (.cons_cons _ (.slnil)))))))
      have hfl := Flat.snoc (hst.fact.2.1.2) hst.fact.1
      have hst := hst.newFact ((Mono.and (Mono.and (Cont.mono _ _) (Flat.mono _ _ _)) (Toks.mono _ _))) ⟨⟨hcont, hfl⟩, hst.fact.2.2⟩
      have hmm : mu n i8 b8 < mu n i' b' := by rcases h8c with h8c | h8c <;> first | exact mu_lt2 h8a (by grind) h8c | exact mu_lt1 (by omega) (by omega)
      exact then_k ⟨mu n i8 b8, hmm, _, i8, x8, y8, b8, _, _, _, _, _, hst, by omega, by omega, by simp [hl], hcc2, by simp [hxl]; omega, by omega, by grind, rfl⟩
    try simp at hc3
    try (have hz := hb1; simp [hc3] at hz)
    refine l_on hst rfl rfl rfl (r_loada hst rfl Ta48 (.tail _ (.head _)) (.cons rfl (.cons rfl (.cons rfl (.cons rfl (.cons rfl (.cons rfl (.nil))))))) rfl rfl ?_)
    clear hst; intro a hst
    refine l_on hst rfl rfl rfl (r_call (xs := [(Operand.tmp 22), (Operand.const (Value.int IntKind.i64 6)), (Operand.const (Value.string { data := #[40] }))]) hst rfl Ten14 (is_c _ _ _ _ _ _ _ (by omega) hn (by first | exact hst.fact | exact hst.fact.2 | exact hst.fact.2.2 | exact hst.fact.2.2.2 | exact hst.fact.2.2.2.2) (by decide)) rfl ?_)
    clear hst; rintro a _ w U ⟨b1, rfl, hb1⟩ hst
    refine l_on hst rfl rfl rfl (r_pick hst rfl rfl rfl ?_)
    clear hst; intro a hst
    refine l_op rfl (r_pick hst rfl rfl rfl ?_)
    clear hst; intro a hst
    refine wpList_nil ?_
    refine then_n ?_
    refine x_cond hst rfl (fun hc4 => ?_) (fun hc4 => ?_)
    · try simp at hc4
      try (have hz := hb1; simp [hc4] at hz)
      refine wp_skip ?_
      refine then_n ?_
      refine wp_block ?_
      refine wp_seq ?_
      refine wp_region_lit ?_
      refine l_op rfl (r_loada hst rfl Ta48 (.tail _ (.head _)) (.cons rfl (.cons rfl (.cons rfl (.cons rfl (.cons rfl (.cons rfl (.nil))))))) rfl rfl ?_)
      clear hst; intro a hst
      refine l_op rfl (r_call (xs := [(Operand.tmp 27), (Operand.const (Value.bool true))]) hst rfl Ten80 (hty _ _ _ _ _ _ _ _ (by omega) (by omega) (by omega) (by omega) (Nat.le_trans (mu_le (by omega) (by grind)) hmu) (by first | exact hst.fact | exact hst.fact.2 | exact hst.fact.2.2 | exact hst.fact.2.2.2 | exact hst.fact.2.2.2.2)) rfl ?_)
      clear hst; rintro a _ w U ⟨i8, b8, x8, y8, k8, m8, s8, B8, l8, c8, t8, rfl, h8a, h8b, h8c, h8⟩ hst
      have hst := hst.addFact (TRep.mono _ _) h8
      refine l_op rfl (r_move hst rfl rfl ?_)
      clear hst; intro a hst
      refine l_op rfl (r_extract hst rfl rfl rfl ?_)
      clear hst; intro a hst
      refine l_op rfl (r_extract hst rfl rfl rfl ?_)
      clear hst; intro a hst
      refine l_op rfl (r_alloc hst Tz48 rfl ?_)
      clear hst; intro a w g3 hst
      refine l_op rfl (r_alloc hst Tz70 rfl ?_)
      clear hst; intro a w g4 hst
      refine l_op rfl (r_store hst rfl rfl rfl Tsz48 rfl (.tail (.head (.here (.here (.here (.here (.here (.here (.nil (Nat.zero_le _)))))))))) ?_)
      clear hst; intro w hst
      refine l_op rfl (r_store hst rfl rfl rfl Tsz70 rfl (.head (.here (.here (.here (.here (.nil (Nat.zero_le _))))))) ?_)
      clear hst; intro w hst
      refine wpList_nil ?_
      refine then_n ?_
      refine wp_seq ?_
      refine wp_region_lit ?_
      refine l_op rfl (r_loada hst rfl Ta48 (.tail _ (.head _)) (.cons rfl (.cons rfl (.cons rfl (.cons rfl (.cons rfl (.cons rfl (.nil))))))) rfl rfl ?_)
      clear hst; intro a hst
      refine l_op rfl (r_store hst rfl rfl rfl Tsz48 rfl (.tail (.tail (.tail (.head (.here (.here (.here (.here (.here (.here (.nil (Nat.zero_le _)))))))))))) ?_)
      clear hst; intro w hst
      refine wpList_nil ?_
      refine then_n ?_
      refine wp_region_lit ?_
      refine l_op rfl (r_move hst rfl rfl ?_)
      clear hst; intro a hst
      refine l_op rfl (r_loada hst rfl Ta70 (.head _) (.cons rfl (.cons rfl (.cons rfl (.cons rfl (.nil))))) rfl rfl ?_)
      clear hst; intro a hst
      refine l_op rfl (r_slice1 hst Tu63 Tsz70 Tz70 rfl (by decide) (by decide) rfl rfl rfl rfl ?_)
      clear hst; intro a w g5 hst
      refine l_op rfl (r_append hst rfl rfl Tet63 (.head _) rfl (by decide) rfl hst.fact.2.1.1 hxl (by omega) (by omega) rfl ?_)
      clear hst; intro a v w U hext hcont hv hst
      obtain ⟨B2, c2, rfl, hcc2⟩ := hv
      refine l_op rfl (r_assign hst rfl rfl ?_)
      clear hst; intro a hst
      refine wpList_nil ?_
      refine inb_n ?_
      have hst := ((hst.keep (ds := [1, 2, 3, 4]) (.cons rfl (.cons rfl (.cons rfl (.cons rfl (.nil)))))).drop (.cons _ (.cons _ (.cons _ (.cons_cons _ (.cons_cons _ (.slnil)))))))
      have hfl := Flat.snoc (hst.fact.2.1.2) hst.fact.1
      have hst := hst.newFact ((Mono.and (Mono.and (Cont.mono _ _) (Flat.mono _ _ _)) (Toks.mono _ _))) ⟨⟨hcont, hfl⟩, hst.fact.2.2⟩
      have hmm : mu n i8 b8 < mu n i' b' := by rcases h8c with h8c | h8c <;> first | exact mu_lt2 h8a (by grind) h8c | exact mu_lt1 (by omega) (by omega)
      exact then_k ⟨mu n i8 b8, hmm, _, i8, x8, y8, b8, _, _, _, _, _, hst, by omega, by omega, by simp [hl], hcc2, by simp [hxl]; omega, by omega, by grind, rfl⟩
    try simp at hc4
    try (have hz := hb1; simp [hc4] at hz)
    refine wp_exit ?_
    refine then_x ?_
    refine then_x ?_
    refine inb_hit ?_
    refine then_n ?_
    refine wp_seq ?_
    refine wp_region_lit ?_
    refine l_op rfl (r_loada hst rfl Ta48 (.tail _ (.head _)) (.cons rfl (.cons rfl (.cons rfl (.cons rfl (.cons rfl (.cons rfl (.nil))))))) rfl rfl ?_)
    clear hst; intro a hst
    refine l_op rfl (r_move hst rfl rfl ?_)
    clear hst; intro a hst
    refine l_op rfl (r_store hst rfl rfl rfl Tsz48 rfl (.head (.here (.here (.here (.here (.here (.here (.nil (Nat.zero_le _))))))))) ?_)
    clear hst; intro w hst
    refine l_op rfl (r_assign hst rfl rfl ?_)
    clear hst; intro a hst
    refine wpList_nil ?_
    refine then_n ?_
    refine wp_ret ?_
    refine x_ret (rs := [.cell 2 48, .tmp 3]) hst rfl (.agg rfl Ta48 (.head _) rfl (.tmp rfl (.nil))) ?_
    exact ⟨_, _, _, _, _, _, _, ts, rfl, by omega, by omega, by grind, Sl.of_flat hst.fact.1.1 hst.fact.1.2 hl hcc⟩
  try simp at hc1
  try (have hz := hb1; simp [hc1] at hz)
  refine l_off hst rfl rfl rfl (by decide) rfl rfl ?_
  clear hst; intro a hst
  refine l_off hst rfl rfl rfl (by decide) rfl rfl ?_
  clear hst; intro a hst
  refine l_off hst rfl rfl rfl (by decide) rfl rfl ?_
  clear hst; intro a hst
  refine l_off hst rfl rfl rfl (by decide) rfl rfl ?_
  clear hst; intro a hst
  refine l_off hst rfl rfl rfl (by decide) rfl rfl ?_
  clear hst; intro a hst
  refine l_undef hst rfl rfl rfl rfl rfl ?_
  clear hst; intro a hst
  refine l_undef hst rfl rfl rfl rfl rfl ?_
  clear hst; intro a hst
  refine l_undef hst rfl rfl rfl rfl rfl ?_
  clear hst; intro a hst
  refine l_undef hst rfl rfl rfl rfl rfl ?_
  clear hst; intro a hst
  refine l_off hst rfl rfl rfl (by decide) rfl rfl ?_
  clear hst; intro a hst
  refine l_off hst rfl rfl rfl (by decide) rfl rfl ?_
  clear hst; intro a hst
  refine l_undef hst rfl rfl rfl rfl rfl ?_
  clear hst; intro a hst
  refine l_undef hst rfl rfl rfl rfl rfl ?_
  clear hst; intro a hst
  refine l_off hst rfl rfl rfl (by decide) rfl rfl ?_
  clear hst; intro a hst
  refine l_op rfl (r_pick hst rfl rfl rfl ?_)
  clear hst; intro a hst
  refine wpList_nil ?_
  refine then_n ?_
  refine x_cond_f hst rfl ?_
  refine wp_exit ?_
  refine then_x ?_
  refine then_x ?_
  refine inb_hit ?_
  refine then_n ?_
  refine wp_seq ?_
  refine wp_region_lit ?_
  refine l_op rfl (r_loada hst rfl Ta48 (.tail _ (.head _)) (.cons rfl (.cons rfl (.cons rfl (.cons rfl (.cons rfl (.cons rfl (.nil))))))) rfl rfl ?_)
  clear hst; intro a hst
  refine l_op rfl (r_move hst rfl rfl ?_)
  clear hst; intro a hst
  refine l_op rfl (r_store hst rfl rfl rfl Tsz48 rfl (.head (.here (.here (.here (.here (.here (.here (.nil (Nat.zero_le _))))))))) ?_)
  clear hst; intro w hst
  refine l_op rfl (r_assign hst rfl rfl ?_)
  clear hst; intro a hst
  refine wpList_nil ?_
  refine then_n ?_
  refine wp_ret ?_
  refine x_ret (rs := [.cell 2 48, .tmp 3]) hst rfl (.agg rfl Ta48 (.head _) rfl (.tmp rfl (.nil))) ?_
  exact ⟨_, _, _, _, _, _, _, ts, rfl, by omega, by omega, by grind, Sl.of_flat hst.fact.1.1 hst.fact.1.2 hl hcc⟩

theorem typ_types {A : Option Addr} {n c : Nat} (hn : n ≤ 1000000) (mm : Nat) : STyp A n c mm ∧ STypes A n c mm := by
  induction mm using Nat.strongRecOn with
  | _ mm ih =>
    have h1 : STyp A n c mm := fun w U i d x y b at_ h0 hin hd0 hd hmu hT => typ_c hn mm ih i d x y b at_ h0 hin hd0 hd hmu hT
    exact ⟨h1, fun w U i d x y b h0 hin hd0 hd hmu hT => types_c hn mm h1 i d x y b h0 hin hd0 hd hmu hT⟩
end Go.Proofs.YtjnjkbmegfkiiaaGreat
