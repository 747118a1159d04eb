/- Contracts of the reader's small functions. -/
import Derived.Test.YtjnjkbmegfkiiaaGreatT
namespace Go.Proofs.YtjnjkbmegfkiiaaGreat
open Go.RowKit
set_option maxRecDepth 10000
set_option linter.unusedVariables false
set_option linter.unusedSimpArgs false
attribute [local irreducible] Oper.wp Code.wp wpList wpAny wpOp Calls CallsS
theorem now_c {w : World} {U : Mk} {A : Option Addr} {n c : Nat} (i d x y : Int) (b : Bool) (h0 : 0 ≤ i) (hn : n ≤ 1000000) (hT : Toks A n w U) :
    CallsS Tryz.prog 12 [.agg #[.slice A n c, .int .i64 i, .int .i64 d, .bool b, .int .i64 x, .int .i64 y]] w U (fun v _ _ => ∃ (k m p q : Int) (s : ByteArray), v = .agg #[.int .i64 k, .string s, .int .i64 m, .int .i64 p, .int .i64 q] ∧ (i < n ∨ k = -1)) := by
  refine x_enter (F := Toks A n) (n := 30) Tryz.func12 rfl rfl (by simp) (.cons (d := 0) rfl (.nil)) (Toks.mono A n) (hT) ?_
  intro a hst
  refine wp_seq ?_
  refine wp_region_lit ?_
  refine l_op rfl (r_box hst rfl rfl rfl ?_)
  clear hst; intro a w g1 hst
  refine l_op rfl (r_alloc hst Tz50 rfl ?_)
  clear hst; intro a w g2 hst
  refine wpList_nil ?_
  refine then_n ?_
  refine wp_seq ?_
  refine wp_seq ?_
  refine wp_region_lit ?_
  refine l_op rfl (r_fieldAddr hst rfl Tf48_1 rfl ?_)
  clear hst; intro a hst
  refine l_op rfl (r_loads hst rfl Ts3 (.tail _ (.head _)) rfl rfl ?_)
  clear hst; intro a hst
  refine l_op rfl (r_fieldAddr hst rfl Tf48_0 rfl ?_)
  clear hst; intro a hst
  refine l_op rfl (r_loads hst rfl Ts44 (.tail _ (.head _)) rfl rfl ?_)
  clear hst; intro a hst
  refine l_op rfl (r_lensl hst rfl Tu44 rfl ?_)
  clear hst; intro a hst
  refine l_op rfl (r_bin hst rfl rfl rfl rfl rfl ?_)
  clear hst; intro a hst
  refine wpList_nil ?_
  refine then_n ?_
  refine x_cond hst rfl (fun hc1 => ?_) (fun hc1 => ?_)
  · have hc1' : i < n := of_decide_eq_true hc1
    obtain ⟨kd, m, p, q, s, g, o, rfl, _, hel⟩ := hst.fact i.toNat (by omega)
    refine wp_seq ?_
    refine wp_region_lit ?_
    refine l_op rfl (r_fieldAddr hst rfl Tf48_0 rfl ?_)
    clear hst; intro a hst
    refine l_op rfl (r_loads hst rfl Ts44 (.tail _ (.head _)) rfl rfl ?_)
    clear hst; intro a hst
    refine l_op rfl (r_fieldAddr hst rfl Tf48_1 rfl ?_)
    clear hst; intro a hst
    refine l_op rfl (r_loads hst rfl Ts3 (.tail _ (.head _)) rfl rfl ?_)
    clear hst; intro a hst
    refine l_op rfl (r_indexAddr hst rfl rfl Tu44 Tsz50 (h0) (hc1') rfl ?_)
    clear hst; intro a hst
    refine l_op rfl (r_loada' hst rfl Ta50 rfl (fun j u hj => (hel j u hj).2) rfl ?_)
    clear hst; intro a hst
    refine l_op rfl (r_store hst rfl rfl rfl Tsz50 rfl (.head (.here (.here (.here (.here (.here (.nil (Nat.zero_le _)))))))) ?_)
    clear hst; intro w hst
    refine wpList_nil ?_
    refine then_n ?_
    refine wp_ret ?_
    refine then_r ?_
    refine x_ret (rs := [.cell 2 50]) hst rfl (.agg rfl Ta50 (.head _) rfl (.nil)) ?_
    exact ⟨_, _, _, _, _, rfl, .inl hc1'⟩
  refine wp_skip ?_
  refine then_n ?_
  refine wp_seq ?_
  refine wp_seq ?_
  refine wp_region_lit ?_
  refine l_op rfl (r_fieldAddr hst rfl Tf48_0 rfl ?_)
  clear hst; intro a hst
  refine l_op rfl (r_loads hst rfl Ts44 (.tail _ (.head _)) rfl rfl ?_)
  clear hst; intro a hst
  refine l_op rfl (r_lensl hst rfl Tu44 rfl ?_)
  clear hst; intro a hst
  refine l_op rfl (r_bin hst rfl rfl rfl rfl rfl ?_)
  clear hst; intro a hst
  refine wpList_nil ?_
  refine then_n ?_
  refine x_cond hst rfl (fun hc2 => ?_) (fun hc2 => ?_)
  · have hc2' : 0 < (n : Int) := of_decide_eq_true hc2
    have hw : IntKind.i64.wrap ((n : Int) - 1) = n - 1 := wrap_in _ (by omega) (by omega)
    obtain ⟨kd, m, p, q, s, g, o, rfl, _, hel⟩ := hst.fact ((n : Int) - 1).toNat (by omega)
    refine wp_seq ?_
    refine wp_region_lit ?_
    refine l_op rfl (r_fieldAddr hst rfl Tf48_0 rfl ?_)
    clear hst; intro a hst
    refine l_op rfl (r_loads hst rfl Ts44 (.tail _ (.head _)) rfl rfl ?_)
    clear hst; intro a hst
    refine l_op rfl (r_fieldAddr hst rfl Tf48_0 rfl ?_)
    clear hst; intro a hst
    refine l_op rfl (r_loads hst rfl Ts44 (.tail _ (.head _)) rfl rfl ?_)
    clear hst; intro a hst
    refine l_op rfl (r_lensl hst rfl Tu44 rfl ?_)
    clear hst; intro a hst
    refine l_op rfl (r_bin hst rfl rfl rfl rfl rfl ?_)
    clear hst; intro a hst
    rw [wrap_in _ (by omega) (by omega)] at hst
    refine l_op rfl (r_indexAddr hst rfl rfl Tu44 Tsz50 ((by omega : (0 : Int) ≤ (n : Int) - 1)) (by omega) rfl ?_)
    clear hst; intro a hst
    refine l_op rfl (r_fieldAddr hst rfl Tf50_3 rfl ?_)
    clear hst; intro a hst
    refine l_op rfl (r_loada' hst rfl Ta28 rfl (cells_sub hel (.cons rfl (.cons rfl .nil))) rfl ?_)
    clear hst; intro a hst
    refine l_op rfl (r_build (ps := [(0, (Operand.const (Value.int IntKind.i64 (-1)))), (3, (Operand.tmp 27))]) hst Tso50 Tz50 (.cons Tf50_0 rfl rfl (.here (.nil (Nat.zero_le _))) (.cons Tf50_3 rfl rfl (.there (.there (.there (.here (.here (.nil (Nat.zero_le _))))))) (.nil))) rfl ?_)
    clear hst; intro a hst
    refine l_op rfl (r_store hst rfl rfl rfl Tsz50 rfl (.head (.here (.here (.here (.here (.here (.nil (Nat.zero_le _)))))))) ?_)
    clear hst; intro w hst
    refine wpList_nil ?_
    refine then_n ?_
    refine wp_ret ?_
    refine then_r ?_
    refine x_ret (rs := [.cell 2 50]) hst rfl (.agg rfl Ta50 (.head _) rfl (.nil)) ?_
    exact ⟨_, _, _, _, _, rfl, .inr rfl⟩
  refine wp_skip ?_
  refine then_n ?_
  refine wp_seq ?_
  refine wp_region_lit ?_
  refine l_op rfl (r_build (ps := [(0, (Operand.const (Value.int IntKind.i64 (-1))))]) hst Tso50 Tz50 (.cons Tf50_0 rfl rfl (.here (.nil (Nat.zero_le _))) (.nil)) rfl ?_)
  clear hst; intro a hst
  refine l_op rfl (r_store hst rfl rfl rfl Tsz50 rfl (.head (.here (.here (.here (.here (.here (.nil (Nat.zero_le _)))))))) ?_)
  clear hst; intro w hst
  refine wpList_nil ?_
  refine then_n ?_
  refine wp_ret ?_
  refine x_ret (rs := [.cell 2 50]) hst rfl (.agg rfl Ta50 (.head _) rfl (.nil)) ?_
  exact ⟨_, _, _, _, _, rfl, .inr rfl⟩

theorem is_c {w : World} {U : Mk} {A : Option Addr} {n c : Nat} (i d x y : Int) (b : Bool) (k : Int) (s : ByteArray) (h0 : 0 ≤ i) (hn : n ≤ 1000000) (hT : Toks A n w U) (hk : 0 ≤ k) :
    CallsS Tryz.prog 14 [.agg #[.slice A n c, .int .i64 i, .int .i64 d, .bool b, .int .i64 x, .int .i64 y], .int .i64 k, .string s] w U (fun v _ _ => ∃ b2 : Bool, v = .bool b2 ∧ (b2 = true → b = false ∧ i < n)) := by
  refine x_enter (F := Toks A n) (n := 24) Tryz.func14 rfl rfl (by simp) (.cons (d := 0) rfl (.cons (d := 1) rfl (.cons (d := 2) rfl (.nil)))) (Toks.mono A n) (hT) ?_
  intro a hst
  refine wp_seq ?_
  refine wp_region_lit ?_
  refine l_op rfl (r_box hst rfl rfl rfl ?_)
  clear hst; intro a w g1 hst
  refine l_op rfl (r_assign hst rfl rfl ?_)
  clear hst; intro a hst
  refine wpList_nil ?_
  refine then_n ?_
  refine wp_seq ?_
  refine wp_region_lit ?_
  refine l_op rfl (r_fieldAddr hst rfl Tf48_3 rfl ?_)
  clear hst; intro a hst
  refine l_op rfl (r_loads hst rfl Ts4 (.head _) rfl rfl ?_)
  clear hst; intro a hst
  refine l_op rfl (r_not hst rfl rfl ?_)
  clear hst; intro a hst
  refine l_op rfl (r_move hst rfl rfl ?_)
  clear hst; intro a hst
  refine hst.split (t := 10) rfl (fun hc1 hst => ?_) (fun hc1 hst => ?_)
  · refine l_on hst rfl rfl rfl (r_loada hst rfl Ta48 (.head _) (.cons rfl (.cons rfl (.cons rfl (.cons rfl (.cons rfl (.cons rfl (.nil))))))) rfl rfl ?_)
    clear hst; intro a hst
    refine l_on hst rfl rfl rfl (r_call (xs := [(Operand.tmp 11)]) hst rfl Ten12 (now_c _ _ _ _ _ (by omega) hn (by first | exact hst.fact | exact hst.fact.2 | exact hst.fact.2.2 | exact hst.fact.2.2.2 | exact hst.fact.2.2.2.2)) rfl ?_)
    clear hst; rintro a _ w U ⟨k1, m1, p1, q1, s1, rfl, hk1⟩ hst
    refine l_on hst rfl rfl rfl (r_fields hst rfl Tfs50_0 rfl rfl ?_)
    clear hst; intro a hst
    refine l_on hst rfl rfl rfl (r_move hst rfl rfl ?_)
    clear hst; intro a hst
    refine l_on hst rfl rfl rfl (r_bin hst rfl rfl rfl rfl rfl ?_)
    clear hst; intro a hst
    refine l_op rfl (r_pick hst rfl rfl rfl ?_)
    clear hst; intro a hst
    refine l_op rfl (r_move hst rfl rfl ?_)
    clear hst; intro a hst
    refine hst.split (t := 17) rfl (fun hc2 hst => ?_) (fun hc2 hst => ?_)
    · refine l_on hst rfl rfl rfl (r_loada hst rfl Ta48 (.head _) (.cons rfl (.cons rfl (.cons rfl (.cons rfl (.cons rfl (.cons rfl (.nil))))))) rfl rfl ?_)
      clear hst; intro a hst
      refine l_on hst rfl rfl rfl (r_call (xs := [(Operand.tmp 18)]) hst rfl Ten12 (now_c _ _ _ _ _ (by omega) hn (by first | exact hst.fact | exact hst.fact.2 | exact hst.fact.2.2 | exact hst.fact.2.2.2 | exact hst.fact.2.2.2.2)) rfl ?_)
      clear hst; rintro a _ w U ⟨k1, m1, p1, q1, s1, rfl, hk1⟩ hst
      refine l_on hst rfl rfl rfl (r_fields hst rfl Tfs50_1 rfl rfl ?_)
      clear hst; intro a hst
      refine l_on hst rfl rfl rfl (r_move hst rfl rfl ?_)
      clear hst; intro a hst
      refine l_on hst rfl rfl rfl (r_bin hst rfl rfl rfl rfl rfl ?_)
      clear hst; intro a hst
      refine l_op rfl (r_pick hst rfl rfl rfl ?_)
      clear hst; intro a hst
      refine l_op rfl (r_assign hst rfl rfl ?_)
      clear hst; intro a hst
      refine wpList_nil ?_
      refine then_n ?_
      refine wp_ret ?_
      refine x_ret (rs := [.tmp 6]) hst rfl (.tmp rfl (.nil)) ?_
      exact ⟨_, rfl, by grind⟩
    refine l_off hst rfl rfl rfl (by decide) rfl rfl ?_
    clear hst; intro a hst
    refine l_off hst rfl rfl rfl (by decide) rfl rfl ?_
    clear hst; intro a hst
    refine l_off hst rfl rfl rfl (by decide) rfl rfl ?_
    clear hst; intro a hst
    refine l_off hst rfl rfl rfl (by decide) rfl rfl ?_
    clear hst; intro a hst
    refine l_off hst rfl rfl rfl (by decide) rfl rfl ?_
    clear hst; intro a hst
    refine l_op rfl (r_pick hst rfl rfl rfl ?_)
    clear hst; intro a hst
    refine l_op rfl (r_assign hst rfl rfl ?_)
    clear hst; intro a hst
    refine wpList_nil ?_
    refine then_n ?_
    refine wp_ret ?_
    refine x_ret (rs := [.tmp 6]) hst rfl (.tmp rfl (.nil)) ?_
    exact ⟨_, rfl, by grind⟩
  refine l_off hst rfl rfl rfl (by decide) rfl rfl ?_
  clear hst; intro a hst
  refine l_off hst rfl rfl rfl (by decide) rfl rfl ?_
  clear hst; intro a hst
  refine l_off hst rfl rfl rfl (by decide) rfl rfl ?_
  clear hst; intro a hst
  refine l_off hst rfl rfl rfl (by decide) rfl rfl ?_
  clear hst; intro a hst
  refine l_off hst rfl rfl rfl (by decide) rfl rfl ?_
  clear hst; intro a hst
  refine l_op rfl (r_pick hst rfl rfl rfl ?_)
  clear hst; intro a hst
  refine l_op rfl (r_move hst rfl rfl ?_)
  clear hst; intro a hst
  refine l_off hst rfl rfl rfl (by decide) rfl rfl ?_
  clear hst; intro a hst
  refine l_off hst rfl rfl rfl (by decide) rfl rfl ?_
  clear hst; intro a hst
  refine l_off hst rfl rfl rfl (by decide) rfl rfl ?_
  clear hst; intro a hst
  refine l_off hst rfl rfl rfl (by decide) rfl rfl ?_
  clear hst; intro a hst
  refine l_off hst rfl rfl rfl (by decide) rfl rfl ?_
  clear hst; intro a hst
  refine l_op rfl (r_pick hst rfl rfl rfl ?_)
  clear hst; intro a hst
  refine l_op rfl (r_assign hst rfl rfl ?_)
  clear hst; intro a hst
  refine wpList_nil ?_
  refine then_n ?_
  refine wp_ret ?_
  refine x_ret (rs := [.tmp 6]) hst rfl (.tmp rfl (.nil)) ?_
  exact ⟨_, rfl, by grind⟩

theorem fail_c {w : World} {U : Mk} {A : Option Addr} {n c : Nat} (i d x y : Int) (b : Bool) (h0 : 0 ≤ i) (hn : n ≤ 1000000) (hT : Toks A n w U) :
    CallsS Tryz.prog 39 [.agg #[.slice A n c, .int .i64 i, .int .i64 d, .bool b, .int .i64 x, .int .i64 y]] w U (fun v _ _ => ∃ x2 y2 : Int, v = .agg #[.slice A n c, .int .i64 i, .int .i64 d, .bool true, .int .i64 x2, .int .i64 y2]) := by
  refine x_enter (F := Toks A n) (n := 12) Tryz.func39 rfl rfl (by simp) (.cons (d := 0) rfl (.nil)) (Toks.mono A n) (hT) ?_
  intro a hst
  refine wp_seq ?_
  refine wp_region_lit ?_
  refine l_op rfl (r_box hst rfl rfl rfl ?_)
  clear hst; intro a w g1 hst
  refine l_op rfl (r_alloc hst Tz48 rfl ?_)
  clear hst; intro a w g2 hst
  refine wpList_nil ?_
  refine then_n ?_
  refine wp_seq ?_
  refine wp_seq ?_
  refine wp_region_lit ?_
  refine l_op rfl (r_fieldAddr hst rfl Tf48_3 rfl ?_)
  clear hst; intro a hst
  refine l_op rfl (r_loads hst rfl Ts4 (.tail _ (.head _)) rfl rfl ?_)
  clear hst; intro a hst
  refine l_op rfl (r_not hst rfl rfl ?_)
  clear hst; intro a hst
  refine wpList_nil ?_
  refine then_n ?_
  refine x_cond hst rfl (fun hc1 => ?_) (fun hc1 => ?_)
  · refine wp_region_lit ?_
    refine l_op rfl (r_loada hst rfl Ta48 (.tail _ (.head _)) (.cons rfl (.cons rfl (.cons rfl (.cons rfl (.cons rfl (.cons rfl (.nil))))))) rfl rfl ?_)
    clear hst; intro a hst
    refine l_op rfl (r_call (xs := [(Operand.tmp 6)]) hst rfl Ten12 (now_c _ _ _ _ _ (by omega) hn (by first | exact hst.fact | exact hst.fact.2 | exact hst.fact.2.2 | exact hst.fact.2.2.2 | exact hst.fact.2.2.2.2)) rfl ?_)
    clear hst; rintro a _ w U ⟨k1, m1, p1, q1, s1, rfl, hk1⟩ hst
    refine l_op rfl (r_fielda hst rfl Tfa50_3 (.cons rfl (.cons rfl (.nil))) rfl rfl ?_)
    clear hst; intro a hst
    refine l_op rfl (r_fieldAddr hst rfl Tf48_4 rfl ?_)
    clear hst; intro a hst
    refine l_op rfl (r_store hst rfl rfl rfl Tsz28 rfl (.tail (.head (.there (.there (.there (.there (.here (.here (.nil (Nat.zero_le _)))))))))) ?_)
    clear hst; intro w hst
    refine wpList_nil ?_
    refine then_n ?_
    refine wp_seq ?_
    refine wp_region_lit ?_
    refine l_op rfl (r_fieldAddr hst rfl Tf48_3 rfl ?_)
    clear hst; intro a hst
    refine l_op rfl (r_store hst rfl rfl rfl Tsz4 rfl (.tail (.head (.there (.there (.there (.here (.nil (Nat.zero_le _)))))))) ?_)
    clear hst; intro w hst
    refine wpList_nil ?_
    refine then_n ?_
    refine wp_seq ?_
    refine wp_region_lit ?_
    refine l_op rfl (r_loada hst rfl Ta48 (.tail _ (.head _)) (.cons rfl (.cons rfl (.cons rfl (.cons rfl (.cons rfl (.cons rfl (.nil))))))) rfl rfl ?_)
    clear hst; intro a hst
    refine l_op rfl (r_store hst rfl rfl rfl Tsz48 rfl (.head (.here (.here (.here (.here (.here (.here (.nil (Nat.zero_le _))))))))) ?_)
    clear hst; intro w hst
    refine wpList_nil ?_
    refine then_n ?_
    refine wp_ret ?_
    refine x_ret (rs := [.cell 2 48]) hst rfl (.agg rfl Ta48 (.head _) rfl (.nil)) ?_
    exact ⟨_, _, rfl⟩
  refine wp_skip ?_
  refine then_n ?_
  refine wp_seq ?_
  refine wp_region_lit ?_
  refine l_op rfl (r_fieldAddr hst rfl Tf48_3 rfl ?_)
  clear hst; intro a hst
  refine l_op rfl (r_store hst rfl rfl rfl Tsz4 rfl (.tail (.head (.there (.there (.there (.here (.nil (Nat.zero_le _)))))))) ?_)
  clear hst; intro w hst
  refine wpList_nil ?_
  refine then_n ?_
  refine wp_seq ?_
  refine wp_region_lit ?_
  refine l_op rfl (r_loada hst rfl Ta48 (.tail _ (.head _)) (.cons rfl (.cons rfl (.cons rfl (.cons rfl (.cons rfl (.cons rfl (.nil))))))) rfl rfl ?_)
  clear hst; intro a hst
  refine l_op rfl (r_store hst rfl rfl rfl Tsz48 rfl (.head (.here (.here (.here (.here (.here (.here (.nil (Nat.zero_le _))))))))) ?_)
  clear hst; intro w hst
  refine wpList_nil ?_
  refine then_n ?_
  refine wp_ret ?_
  refine x_ret (rs := [.cell 2 48]) hst rfl (.agg rfl Ta48 (.head _) rfl (.nil)) ?_
  exact ⟨_, _, rfl⟩

theorem take_c {w : World} {U : Mk} {A : Option Addr} {n c : Nat} (i d x y : Int) (b : Bool) (k : Int) (s : ByteArray) (h0 : 0 ≤ i) (hn : n ≤ 1000000) (hT : Toks A n w U) (hin : i ≤ n) (hk : 0 ≤ k) :
    CallsS Tryz.prog 13 [.agg #[.slice A n c, .int .i64 i, .int .i64 d, .bool b, .int .i64 x, .int .i64 y], .int .i64 k, .string s] w U (fun v _ _ => ∃ (i2 : Int) (b2 : Bool) (x2 y2 : Int), v = .agg #[.slice A n c, .int .i64 i2, .int .i64 d, .bool b2, .int .i64 x2, .int .i64 y2] ∧ ((b2 = true ∧ i2 = i) ∨ (b2 = false ∧ b = false ∧ i2 = i + 1 ∧ i < n))) := by
  refine x_enter (F := Toks A n) (n := 19) Tryz.func13 rfl rfl (by simp) (.cons (d := 0) rfl (.cons (d := 1) rfl (.cons (d := 2) rfl (.nil)))) (Toks.mono A n) (hT) ?_
  intro a hst
  refine wp_seq ?_
  refine wp_region_lit ?_
  refine l_op rfl (r_box hst rfl rfl rfl ?_)
  clear hst; intro a w g1 hst
  refine l_op rfl (r_alloc hst Tz48 rfl ?_)
  clear hst; intro a w g2 hst
  refine wpList_nil ?_
  refine then_n ?_
  refine wp_seq ?_
  refine wp_seq ?_
  refine wp_region_lit ?_
  refine l_op rfl (r_loada hst rfl Ta48 (.tail _ (.head _)) (.cons rfl (.cons rfl (.cons rfl (.cons rfl (.cons rfl (.cons rfl (.nil))))))) rfl rfl ?_)
  clear hst; intro a hst
  refine l_op rfl (r_move hst rfl rfl ?_)
  clear hst; intro a hst
  refine l_op rfl (r_move hst rfl rfl ?_)
  clear hst; intro a hst
  refine l_op rfl (r_call (xs := [(Operand.tmp 7), (Operand.tmp 8), (Operand.tmp 9)]) hst rfl Ten14 (is_c _ _ _ _ _ _ _ (by omega) hn (by first | exact hst.fact | exact hst.fact.2 | exact hst.fact.2.2 | exact hst.fact.2.2.2 | exact hst.fact.2.2.2.2) hk) rfl ?_)
  clear hst; rintro a _ w U ⟨b1, rfl, hb1⟩ hst
  refine l_op rfl (r_not hst rfl rfl ?_)
  clear hst; intro a hst
  refine wpList_nil ?_
  refine then_n ?_
  refine x_cond hst rfl (fun hc1 => ?_) (fun hc1 => ?_)
  · have hc12 := hc1; cases b1 <;> simp at hc1
    refine wp_seq ?_
    refine wp_region_lit ?_
    refine l_op rfl (r_loada hst rfl Ta48 (.tail _ (.head _)) (.cons rfl (.cons rfl (.cons rfl (.cons rfl (.cons rfl (.cons rfl (.nil))))))) rfl rfl ?_)
    clear hst; intro a hst
    refine l_op rfl (r_call (xs := [(Operand.tmp 12)]) hst rfl Ten39 (fail_c _ _ _ _ _ (by omega) hn (by first | exact hst.fact | exact hst.fact.2 | exact hst.fact.2.2 | exact hst.fact.2.2.2 | exact hst.fact.2.2.2.2)) rfl ?_)
    clear hst; rintro a _ w U ⟨xf, yf, rfl⟩ hst
    refine l_op rfl (r_store hst rfl rfl rfl Tsz48 rfl (.head (.here (.here (.here (.here (.here (.here (.nil (Nat.zero_le _))))))))) ?_)
    clear hst; intro w hst
    refine wpList_nil ?_
    refine then_n ?_
    refine wp_ret ?_
    refine then_r ?_
    refine x_ret (rs := [.cell 6 48]) hst rfl (.agg rfl Ta48 (.head _) rfl (.nil)) ?_
    exact ⟨_, _, _, _, rfl, by grind⟩
  have hc12 := hc1; cases b1 <;> simp at hc1
  refine wp_skip ?_
  refine then_n ?_
  refine wp_seq ?_
  refine wp_region_lit ?_
  refine l_op rfl (r_fieldAddr hst rfl Tf48_1 rfl ?_)
  clear hst; intro a hst
  refine l_op rfl (r_loads hst rfl Ts3 (.tail _ (.head _)) rfl rfl ?_)
  clear hst; intro a hst
  refine l_op rfl (r_bin hst rfl rfl rfl rfl rfl ?_)
  clear hst; intro a hst
  rw [wrap_in _ (by omega) (by omega)] at hst
  refine l_op rfl (r_fieldAddr hst rfl Tf48_1 rfl ?_)
  clear hst; intro a hst
  refine l_op rfl (r_store hst rfl rfl rfl Tsz3 rfl (.tail (.head (.there (.here (.nil (Nat.zero_le _)))))) ?_)
  clear hst; intro w hst
  refine wpList_nil ?_
  refine then_n ?_
  refine wp_seq ?_
  refine wp_region_lit ?_
  refine l_op rfl (r_loada hst rfl Ta48 (.tail _ (.head _)) (.cons rfl (.cons rfl (.cons rfl (.cons rfl (.cons rfl (.cons rfl (.nil))))))) rfl rfl ?_)
  clear hst; intro a hst
  refine l_op rfl (r_store hst rfl rfl rfl Tsz48 rfl (.head (.here (.here (.here (.here (.here (.here (.nil (Nat.zero_le _))))))))) ?_)
  clear hst; intro w hst
  refine wpList_nil ?_
  refine then_n ?_
  refine wp_ret ?_
  refine x_ret (rs := [.cell 6 48]) hst rfl (.agg rfl Ta48 (.head _) rfl (.nil)) ?_
  exact ⟨_, _, _, _, rfl, by grind⟩

theorem name_c {w : World} {U : Mk} {A : Option Addr} {n c : Nat} (i d x y : Int) (b : Bool) (k : Int) (h0 : 0 ≤ i) (hn : n ≤ 1000000) (hT : Toks A n w U) (hin : i ≤ n) (hk : 0 ≤ k) :
    CallsS Tryz.prog 40 [.agg #[.slice A n c, .int .i64 i, .int .i64 d, .bool b, .int .i64 x, .int .i64 y], .int .i64 k] w U (fun v _ _ => ∃ (i2 : Int) (b2 : Bool) (x2 y2 : Int) (s : ByteArray), v = .tuple #[.agg #[.slice A n c, .int .i64 i2, .int .i64 d, .bool b2, .int .i64 x2, .int .i64 y2], .string s] ∧ ((b2 = true ∧ i2 = i) ∨ (b2 = false ∧ b = false ∧ i2 = i + 1 ∧ i < n))) := by
  refine x_enter (F := Toks A n) (n := 26) Tryz.func40 rfl rfl (by simp) (.cons (d := 0) rfl (.cons (d := 1) rfl (.nil))) (Toks.mono A n) (hT) ?_
  intro a hst
  refine wp_seq ?_
  refine wp_region_lit ?_
  refine l_op rfl (r_box hst rfl rfl rfl ?_)
  clear hst; intro a w g1 hst
  refine l_op rfl (r_alloc hst Tz48 rfl ?_)
  clear hst; intro a w g2 hst
  refine l_op rfl (r_assign hst rfl rfl ?_)
  clear hst; intro a hst
  refine wpList_nil ?_
  refine then_n ?_
  refine wp_seq ?_
  refine wp_region_lit ?_
  refine l_op rfl (r_loada hst rfl Ta48 (.tail _ (.head _)) (.cons rfl (.cons rfl (.cons rfl (.cons rfl (.cons rfl (.cons rfl (.nil))))))) rfl rfl ?_)
  clear hst; intro a hst
  refine l_op rfl (r_call (xs := [(Operand.tmp 7)]) hst rfl Ten12 (now_c _ _ _ _ _ (by omega) hn (by first | exact hst.fact | exact hst.fact.2 | exact hst.fact.2.2 | exact hst.fact.2.2.2 | exact hst.fact.2.2.2.2)) rfl ?_)
  clear hst; rintro a _ w U ⟨k1, m1, p1, q1, s1, rfl, hk1⟩ hst
  refine l_op rfl (r_alloc hst Tz50 rfl ?_)
  clear hst; intro a w g3 hst
  refine l_op rfl (r_store hst rfl rfl rfl Tsz50 rfl (.head (.here (.here (.here (.here (.here (.nil (Nat.zero_le _)))))))) ?_)
  clear hst; intro w hst
  refine wpList_nil ?_
  refine then_n ?_
  refine wp_seq ?_
  refine wp_seq ?_
  refine wp_region_lit ?_
  refine l_op rfl (r_fieldAddr hst rfl Tf48_3 rfl ?_)
  clear hst; intro a hst
  refine l_op rfl (r_loads hst rfl Ts4 (.tail _ (.tail _ (.head _))) rfl rfl ?_)
  clear hst; intro a hst
  refine l_op rfl (r_move hst rfl rfl ?_)
  clear hst; intro a hst
  refine hst.split (t := 11) rfl (fun hc1 hst => ?_) (fun hc1 hst => ?_)
  · refine l_off hst rfl rfl rfl (by decide) rfl rfl ?_
    clear hst; intro a hst
    refine l_off hst rfl rfl rfl (by decide) rfl rfl ?_
    clear hst; intro a hst
    refine l_off hst rfl rfl rfl (by decide) rfl rfl ?_
    clear hst; intro a hst
    refine l_off hst rfl rfl rfl (by decide) rfl rfl ?_
    clear hst; intro a hst
    refine l_op rfl (r_pick hst rfl rfl rfl ?_)
    clear hst; intro a hst
    refine wpList_nil ?_
    refine then_n ?_
    refine x_cond_t hst rfl ?_
    refine wp_seq ?_
    refine wp_region_lit ?_
    refine l_op rfl (r_loada hst rfl Ta48 (.tail _ (.tail _ (.head _))) (.cons rfl (.cons rfl (.cons rfl (.cons rfl (.cons rfl (.cons rfl (.nil))))))) rfl rfl ?_)
    clear hst; intro a hst
    refine l_op rfl (r_call (xs := [(Operand.tmp 17)]) hst rfl Ten39 (fail_c _ _ _ _ _ (by omega) hn (by first | exact hst.fact | exact hst.fact.2 | exact hst.fact.2.2 | exact hst.fact.2.2.2 | exact hst.fact.2.2.2.2)) rfl ?_)
    clear hst; rintro a _ w U ⟨xf, yf, rfl⟩ hst
    refine l_op rfl (r_store hst rfl rfl rfl Tsz48 rfl (.tail (.head (.here (.here (.here (.here (.here (.here (.nil (Nat.zero_le _)))))))))) ?_)
    clear hst; intro w hst
    refine l_op rfl (r_assign hst rfl rfl ?_)
    clear hst; intro a hst
    refine wpList_nil ?_
    refine then_n ?_
    refine wp_ret ?_
    refine then_r ?_
    refine x_ret (rs := [.cell 4 48, .tmp 5]) hst rfl (.agg rfl Ta48 (.tail _ (.head _)) rfl (.tmp rfl (.nil))) ?_
    exact ⟨_, _, _, _, _, rfl, by grind⟩
  refine l_on hst rfl rfl rfl (r_fieldAddr hst rfl Tf50_0 rfl ?_)
  clear hst; intro a hst
  refine l_on hst rfl rfl rfl (r_loads hst rfl Ts3 (.head _) rfl rfl ?_)
  clear hst; intro a hst
  refine l_on hst rfl rfl rfl (r_move hst rfl rfl ?_)
  clear hst; intro a hst
  refine l_on hst rfl rfl rfl (r_bin hst rfl rfl rfl rfl rfl ?_)
  clear hst; intro a hst
  refine l_op rfl (r_pick hst rfl rfl rfl ?_)
  clear hst; intro a hst
  refine wpList_nil ?_
  refine then_n ?_
  refine x_cond hst rfl (fun hc2 => ?_) (fun hc2 => ?_)
  · refine wp_seq ?_
    refine wp_region_lit ?_
    refine l_op rfl (r_loada hst rfl Ta48 (.tail _ (.tail _ (.head _))) (.cons rfl (.cons rfl (.cons rfl (.cons rfl (.cons rfl (.cons rfl (.nil))))))) rfl rfl ?_)
    clear hst; intro a hst
    refine l_op rfl (r_call (xs := [(Operand.tmp 17)]) hst rfl Ten39 (fail_c _ _ _ _ _ (by omega) hn (by first | exact hst.fact | exact hst.fact.2 | exact hst.fact.2.2 | exact hst.fact.2.2.2 | exact hst.fact.2.2.2.2)) rfl ?_)
    clear hst; rintro a _ w U ⟨xf, yf, rfl⟩ hst
    refine l_op rfl (r_store hst rfl rfl rfl Tsz48 rfl (.tail (.head (.here (.here (.here (.here (.here (.here (.nil (Nat.zero_le _)))))))))) ?_)
    clear hst; intro w hst
    refine l_op rfl (r_assign hst rfl rfl ?_)
    clear hst; intro a hst
    refine wpList_nil ?_
    refine then_n ?_
    refine wp_ret ?_
    refine then_r ?_
    refine x_ret (rs := [.cell 4 48, .tmp 5]) hst rfl (.agg rfl Ta48 (.tail _ (.head _)) rfl (.tmp rfl (.nil))) ?_
    exact ⟨_, _, _, _, _, rfl, by grind⟩
  refine wp_skip ?_
  refine then_n ?_
  refine wp_seq ?_
  refine wp_region_lit ?_
  refine l_op rfl (r_fieldAddr hst rfl Tf48_1 rfl ?_)
  clear hst; intro a hst
  refine l_op rfl (r_loads hst rfl Ts3 (.tail _ (.tail _ (.head _))) rfl rfl ?_)
  clear hst; intro a hst
  refine l_op rfl (r_bin hst rfl rfl rfl rfl rfl ?_)
  clear hst; intro a hst
  rw [wrap_in _ (by omega) (by omega)] at hst
  refine l_op rfl (r_fieldAddr hst rfl Tf48_1 rfl ?_)
  clear hst; intro a hst
  refine l_op rfl (r_store hst rfl rfl rfl Tsz3 rfl (.tail (.tail (.head (.there (.here (.nil (Nat.zero_le _))))))) ?_)
  clear hst; intro w hst
  refine wpList_nil ?_
  refine then_n ?_
  refine wp_seq ?_
  refine x_drawh (by kernel_rfl) hst (.cons_cons _ (.cons _ (.cons_cons _ (.slnil)))) ?_
  clear hst; intro w hst
  refine h_take (i := 0) hst (.cons_cons _ (.cons _ (.cons_cons _ (.slnil)))) rfl rfl rfl rfl (by kernel_rfl) (by kernel_rfl) (by kernel_rfl) (fun _ _ _ h => h) (fun _ _ _ _ hst => q_loada hst rfl Ta48 (.tail _ (.head _)) (.cons rfl (.cons rfl (.cons rfl (.cons rfl (.cons rfl (.cons rfl (.nil))))))) rfl) ?_
  clear hst; intro a hst
  refine h_take (i := 1) hst (.cons_cons _ (.cons _ (.cons_cons _ (.slnil)))) rfl rfl rfl rfl (by kernel_rfl) (by kernel_rfl) (by kernel_rfl) (fun _ _ _ h => h) (fun _ _ _ _ hst => q_fieldAddr hst rfl Tf50_1) ?_
  clear hst; intro a hst
  refine h_take (i := 2) hst (.cons_cons _ (.cons _ (.cons_cons _ (.slnil)))) rfl rfl rfl rfl (by kernel_rfl) (by kernel_rfl) (by kernel_rfl) (fun _ _ _ h => h) (fun _ _ _ _ hst => q_loads hst rfl Ts9 (.head _) rfl) ?_
  clear hst; intro a hst
  refine h_one (i := 3) (by kernel_rfl) rfl rfl (r_store hst rfl rfl rfl Tsz48 rfl (.tail (.head (.here (.here (.here (.here (.here (.here (.nil (Nat.zero_le _)))))))))) ?_)
  clear hst; intro w hst
  refine ⟨hst.held (.cons_cons _ (.cons _ (.cons_cons _ (.slnil)))), ?_⟩
  refine h_take (i := 4) hst (.cons_cons _ (.cons _ (.cons_cons _ (.slnil)))) rfl rfl rfl rfl (by kernel_rfl) (by kernel_rfl) (by kernel_rfl) (fun _ _ _ h => h) (fun _ _ _ _ hst => q_assign hst rfl) ?_
  clear hst; intro a hst
  refine h_done (by kernel_rfl) ?_
  refine then_n ?_
  refine wp_ret ?_
  refine x_ret (rs := [.cell 4 48, .tmp 5]) hst rfl (.agg rfl Ta48 (.tail _ (.head _)) rfl (.tmp rfl (.nil))) ?_
  exact ⟨_, _, _, _, _, rfl, by grind⟩

theorem down_c {w : World} {U : Mk} {A : Option Addr} {n c : Nat} (i d x y : Int) (b : Bool) (h0 : 0 ≤ i) (hn : n ≤ 1000000) (hT : Toks A n w U) (hin : i < n) (hd0 : 0 ≤ d) (hd : d ≤ 40) :
    CallsS Tryz.prog 63 [.agg #[.slice A n c, .int .i64 i, .int .i64 d, .bool b, .int .i64 x, .int .i64 y]] w U (fun v _ _ => ∃ (i2 d2 : Int) (b2 : Bool) (x2 y2 : Int), v = .agg #[.slice A n c, .int .i64 i2, .int .i64 d2, .bool b2, .int .i64 x2, .int .i64 y2] ∧ ((b2 = true ∧ i2 = i ∧ d2 = d) ∨ (b2 = b ∧ i2 = i + 1 ∧ d2 = d + 1 ∧ d < 40))) := by
  refine x_enter (F := Toks A n) (n := 17) Tryz.func63 rfl rfl (by simp) (.cons (d := 0) rfl (.nil)) (Toks.mono A n) (hT) ?_
  intro a hst
  refine wp_seq ?_
  refine wp_region_lit ?_
  refine l_op rfl (r_box hst rfl rfl rfl ?_)
  clear hst; intro a w g1 hst
  refine l_op rfl (r_alloc hst Tz48 rfl ?_)
  clear hst; intro a w g2 hst
  refine wpList_nil ?_
  refine then_n ?_
  refine wp_seq ?_
  refine wp_seq ?_
  refine wp_region_lit ?_
  refine l_op rfl (r_fieldAddr hst rfl Tf48_2 rfl ?_)
  clear hst; intro a hst
  refine l_op rfl (r_loads hst rfl Ts3 (.tail _ (.head _)) rfl rfl ?_)
  clear hst; intro a hst
  refine l_op rfl (r_bin hst rfl rfl rfl rfl rfl ?_)
  clear hst; intro a hst
  refine wpList_nil ?_
  refine then_n ?_
  refine x_cond hst rfl (fun hc1 => ?_) (fun hc1 => ?_)
  · simp at hc1
    refine wp_seq ?_
    refine wp_region_lit ?_
    refine l_op rfl (r_loada hst rfl Ta48 (.tail _ (.head _)) (.cons rfl (.cons rfl (.cons rfl (.cons rfl (.cons rfl (.cons rfl (.nil))))))) rfl rfl ?_)
    clear hst; intro a hst
    refine l_op rfl (r_call (xs := [(Operand.tmp 6)]) hst rfl Ten39 (fail_c _ _ _ _ _ (by omega) hn (by first | exact hst.fact | exact hst.fact.2 | exact hst.fact.2.2 | exact hst.fact.2.2.2 | exact hst.fact.2.2.2.2)) rfl ?_)
    clear hst; rintro a _ w U ⟨xf, yf, rfl⟩ hst
    refine l_op rfl (r_store hst rfl rfl rfl Tsz48 rfl (.head (.here (.here (.here (.here (.here (.here (.nil (Nat.zero_le _))))))))) ?_)
    clear hst; intro w hst
    refine wpList_nil ?_
    refine then_n ?_
    refine wp_ret ?_
    refine then_r ?_
    refine x_ret (rs := [.cell 2 48]) hst rfl (.agg rfl Ta48 (.head _) rfl (.nil)) ?_
    exact ⟨_, _, _, _, _, rfl, by grind⟩
  simp at hc1
  refine wp_skip ?_
  refine then_n ?_
  refine wp_seq ?_
  refine wp_region_lit ?_
  refine l_op rfl (r_fieldAddr hst rfl Tf48_2 rfl ?_)
  clear hst; intro a hst
  refine l_op rfl (r_loads hst rfl Ts3 (.tail _ (.head _)) rfl rfl ?_)
  clear hst; intro a hst
  refine l_op rfl (r_bin hst rfl rfl rfl rfl rfl ?_)
  clear hst; intro a hst
  rw [wrap_in _ (by omega) (by omega)] at hst
  refine l_op rfl (r_fieldAddr hst rfl Tf48_2 rfl ?_)
  clear hst; intro a hst
  refine l_op rfl (r_store hst rfl rfl rfl Tsz3 rfl (.tail (.head (.there (.there (.here (.nil (Nat.zero_le _))))))) ?_)
  clear hst; intro w hst
  refine wpList_nil ?_
  refine then_n ?_
  refine wp_seq ?_
  refine wp_region_lit ?_
  refine l_op rfl (r_fieldAddr hst rfl Tf48_1 rfl ?_)
  clear hst; intro a hst
  refine l_op rfl (r_loads hst rfl Ts3 (.tail _ (.head _)) rfl rfl ?_)
  clear hst; intro a hst
  refine l_op rfl (r_bin hst rfl rfl rfl rfl rfl ?_)
  clear hst; intro a hst
  rw [wrap_in _ (by omega) (by omega)] at hst
  refine l_op rfl (r_fieldAddr hst rfl Tf48_1 rfl ?_)
  clear hst; intro a hst
  refine l_op rfl (r_store hst rfl rfl rfl Tsz3 rfl (.tail (.head (.there (.here (.nil (Nat.zero_le _)))))) ?_)
  clear hst; intro w hst
  refine wpList_nil ?_
  refine then_n ?_
  refine wp_seq ?_
  refine wp_region_lit ?_
  refine l_op rfl (r_loada hst rfl Ta48 (.tail _ (.head _)) (.cons rfl (.cons rfl (.cons rfl (.cons rfl (.cons rfl (.cons rfl (.nil))))))) rfl rfl ?_)
  clear hst; intro a hst
  refine l_op rfl (r_store hst rfl rfl rfl Tsz48 rfl (.head (.here (.here (.here (.here (.here (.here (.nil (Nat.zero_le _))))))))) ?_)
  clear hst; intro w hst
  refine wpList_nil ?_
  refine then_n ?_
  refine wp_ret ?_
  refine x_ret (rs := [.cell 2 48]) hst rfl (.agg rfl Ta48 (.head _) rfl (.nil)) ?_
  exact ⟨_, _, _, _, _, rfl, by grind⟩

theorem plain_c {w : World} {U : Mk} {A : Option Addr} {n c : Nat} (i d x y : Int) (b : Bool) (h0 : 0 ≤ i) (hn : n ≤ 1000000) (hT : Toks A n w U) (hin : i ≤ n) :
    CallsS Tryz.prog 62 [.agg #[.slice A n c, .int .i64 i, .int .i64 d, .bool b, .int .i64 x, .int .i64 y]] w U (fun v _ _ => ∃ (i2 k m p q : Int) (s : ByteArray), v = .tuple #[.agg #[.slice A n c, .int .i64 i2, .int .i64 d, .bool b, .int .i64 x, .int .i64 y], .agg #[.int .i64 k, .string s, .int .i64 m, .slice none 0 0, .int .i64 p, .int .i64 q]] ∧ ((k = 0 ∧ i2 = i) ∨ (k ≠ 0 ∧ b = false ∧ i2 = i + 1 ∧ i < n))) := by
  refine x_enter (F := Toks A n) (n := 51) Tryz.func62 rfl rfl (by simp) (.cons (d := 0) rfl (.nil)) (Toks.mono A n) (hT) ?_
  intro a hst
  refine wp_seq ?_
  refine wp_region_lit ?_
  refine l_op rfl (r_box hst rfl rfl rfl ?_)
  clear hst; intro a w g1 hst
  refine l_op rfl (r_alloc hst Tz48 rfl ?_)
  clear hst; intro a w g2 hst
  refine l_op rfl (r_alloc hst Tz58 rfl ?_)
  clear hst; intro a w g3 hst
  refine wpList_nil ?_
  refine then_n ?_
  refine wp_seq ?_
  refine wp_region_lit ?_
  refine l_op rfl (r_loada hst rfl Ta48 (.tail _ (.tail _ (.head _))) (.cons rfl (.cons rfl (.cons rfl (.cons rfl (.cons rfl (.cons rfl (.nil))))))) rfl rfl ?_)
  clear hst; intro a hst
  refine l_op rfl (r_call (xs := [(Operand.tmp 5)]) hst rfl Ten12 (now_c _ _ _ _ _ (by omega) hn (by first | exact hst.fact | exact hst.fact.2 | exact hst.fact.2.2 | exact hst.fact.2.2.2 | exact hst.fact.2.2.2.2)) rfl ?_)
  clear hst; rintro a _ w U ⟨k1, m1, p1, q1, s1, rfl, hk1⟩ hst
  refine l_op rfl (r_alloc hst Tz50 rfl ?_)
  clear hst; intro a w g4 hst
  refine l_op rfl (r_store hst rfl rfl rfl Tsz50 rfl (.head (.here (.here (.here (.here (.here (.nil (Nat.zero_le _)))))))) ?_)
  clear hst; intro w hst
  refine wpList_nil ?_
  refine then_n ?_
  refine wp_seq ?_
  refine wp_seq ?_
  refine wp_region_lit ?_
  refine l_op rfl (r_fieldAddr hst rfl Tf48_3 rfl ?_)
  clear hst; intro a hst
  refine l_op rfl (r_loads hst rfl Ts4 (.tail _ (.tail _ (.tail _ (.head _)))) rfl rfl ?_)
  clear hst; intro a hst
  refine wpList_nil ?_
  refine then_n ?_
  refine x_cond hst rfl (fun hc1 => ?_) (fun hc1 => ?_)
  · try simp at hc1
    refine wp_seq ?_
    refine wp_region_lit ?_
    refine l_op rfl (r_loada hst rfl Ta48 (.tail _ (.tail _ (.tail _ (.head _)))) (.cons rfl (.cons rfl (.cons rfl (.cons rfl (.cons rfl (.cons rfl (.nil))))))) rfl rfl ?_)
    clear hst; intro a hst
    refine l_op rfl (r_build (ps := []) hst Tso58 Tz58 (.nil) rfl ?_)
    clear hst; intro a hst
    refine l_op rfl (r_store hst rfl rfl rfl Tsz48 rfl (.tail (.tail (.head (.here (.here (.here (.here (.here (.here (.nil (Nat.zero_le _))))))))))) ?_)
    clear hst; intro w hst
    refine l_op rfl (r_store hst rfl rfl rfl Tsz58 rfl (.tail (.head (.here (.here (.here (.here (.here (.here (.nil (Nat.zero_le _)))))))))) ?_)
    clear hst; intro w hst
    refine wpList_nil ?_
    refine then_n ?_
    refine wp_ret ?_
    refine then_r ?_
    refine x_ret (rs := [.cell 2 48, .cell 3 58]) hst rfl (.agg rfl Ta48 (.tail _ (.tail _ (.head _))) rfl (.agg rfl Ta58 (.tail _ (.head _)) rfl (.nil))) ?_
    exact ⟨_, _, _, _, _, _, rfl, by grind⟩
  try simp at hc1
  refine wp_skip ?_
  refine then_n ?_
  refine wp_seq ?_
  refine wp_region_lit ?_
  refine l_op rfl (r_fieldAddr hst rfl Tf50_0 rfl ?_)
  clear hst; intro a hst
  refine l_op rfl (r_loads hst rfl Ts3 (.head _) rfl rfl ?_)
  clear hst; intro a hst
  refine wpList_nil ?_
  refine then_n ?_
  refine wp_block ?_
  refine wp_seq ?_
  refine wp_region_lit ?_
  refine l_op rfl (r_bin hst rfl rfl rfl rfl rfl ?_)
  clear hst; intro a hst
  refine l_op rfl (r_assign hst rfl rfl ?_)
  clear hst; intro a hst
  refine wpList_nil ?_
  refine then_n ?_
  refine x_cond hst rfl (fun hc2 => ?_) (fun hc2 => ?_)
  · try simp at hc2
    refine wp_seq ?_
    refine wp_region_lit ?_
    refine l_op rfl (r_fieldAddr hst rfl Tf48_1 rfl ?_)
    clear hst; intro a hst
    refine l_op rfl (r_loads hst rfl Ts3 (.tail _ (.tail _ (.tail _ (.head _)))) rfl rfl ?_)
    clear hst; intro a hst
    refine l_op rfl (r_bin hst rfl rfl rfl rfl rfl ?_)
    clear hst; intro a hst
    rw [wrap_in _ (by omega) (by omega)] at hst
    refine l_op rfl (r_fieldAddr hst rfl Tf48_1 rfl ?_)
    clear hst; intro a hst
    refine l_op rfl (r_store hst rfl rfl rfl Tsz3 rfl (.tail (.tail (.tail (.head (.there (.here (.nil (Nat.zero_le _)))))))) ?_)
    clear hst; intro w hst
    refine wpList_nil ?_
    refine then_n ?_
    refine wp_seq ?_
    refine x_drawh (by kernel_rfl) hst (.cons_cons _ (.cons _ (.cons _ (.cons_cons _ (.slnil))))) ?_
    clear hst; intro w hst
    refine h_take (i := 0) hst (.cons_cons _ (.cons _ (.cons _ (.cons_cons _ (.slnil))))) rfl rfl rfl rfl (by kernel_rfl) (by kernel_rfl) (by kernel_rfl) (fun _ _ _ h => h) (fun _ _ _ _ hst => q_loada hst rfl Ta48 (.tail _ (.head _)) (.cons rfl (.cons rfl (.cons rfl (.cons rfl (.cons rfl (.cons rfl (.nil))))))) rfl) ?_
    clear hst; intro a hst
    refine h_take (i := 1) hst (.cons_cons _ (.cons _ (.cons _ (.cons_cons _ (.slnil))))) rfl rfl rfl rfl (by kernel_rfl) (by kernel_rfl) (by kernel_rfl) (fun _ _ _ h => h) (fun _ _ _ _ hst => q_fieldAddr hst rfl Tf50_1) ?_
    clear hst; intro a hst
    refine h_take (i := 2) hst (.cons_cons _ (.cons _ (.cons _ (.cons_cons _ (.slnil))))) rfl rfl rfl rfl (by kernel_rfl) (by kernel_rfl) (by kernel_rfl) (fun _ _ _ h => h) (fun _ _ _ _ hst => q_loads hst rfl Ts9 (.head _) rfl) ?_
    clear hst; intro a hst
    refine h_take (i := 3) hst (.cons_cons _ (.cons _ (.cons _ (.cons_cons _ (.slnil))))) rfl rfl rfl rfl (by kernel_rfl) (by kernel_rfl) (by kernel_rfl) (fun _ _ _ h => h) (fun _ _ _ _ hst => q_fieldAddr hst rfl Tf50_3) ?_
    clear hst; intro a hst
    refine h_take (i := 4) hst (.cons_cons _ (.cons _ (.cons _ (.cons_cons _ (.slnil))))) rfl rfl rfl rfl (by kernel_rfl) (by kernel_rfl) (by kernel_rfl) (fun _ _ _ h => h) (fun _ _ _ _ hst => q_loada hst rfl Ta28 (.head _) (.cons rfl (.cons rfl (.nil))) rfl) ?_
    clear hst; intro a hst
    refine h_take (i := 5) hst (.cons_cons _ (.cons _ (.cons _ (.cons_cons _ (.slnil))))) rfl rfl rfl rfl (by kernel_rfl) (by kernel_rfl) (by kernel_rfl) (fun _ _ _ h => h) (fun _ _ _ _ hst => q_build (ps := [(0, (Operand.const (Value.int IntKind.i64 1))), (1, (Operand.tmp 23)), (4, (Operand.tmp 25))]) hst Tso58 Tz58 (.cons Tf58_0 rfl rfl (.here (.nil (Nat.zero_le _))) (.cons Tf58_1 rfl rfl (.there (.here (.nil (Nat.zero_le _)))) (.cons Tf58_4 rfl rfl (.there (.there (.there (.there (.here (.here (.nil (Nat.zero_le _)))))))) (.nil))))) ?_
    clear hst; intro a hst
    refine h_one (i := 6) (by kernel_rfl) rfl rfl (r_store hst rfl rfl rfl Tsz48 rfl (.tail (.tail (.head (.here (.here (.here (.here (.here (.here (.nil (Nat.zero_le _))))))))))) ?_)
    clear hst; intro w hst
    refine ⟨hst.held (.cons_cons _ (.cons _ (.cons _ (.cons_cons _ (.slnil))))), ?_⟩
    refine h_one (i := 7) (by kernel_rfl) rfl rfl (r_store hst rfl rfl rfl Tsz58 rfl (.tail (.head (.here (.here (.here (.here (.here (.here (.nil (Nat.zero_le _)))))))))) ?_)
    clear hst; intro w hst
    refine ⟨hst.held (.cons_cons _ (.cons _ (.cons _ (.cons_cons _ (.slnil))))), ?_⟩
    refine h_done (by kernel_rfl) ?_
    refine then_n ?_
    refine wp_ret ?_
    refine inb_r ?_
    refine x_ret (rs := [.cell 2 48, .cell 3 58]) hst rfl (.agg rfl Ta48 (.tail _ (.tail _ (.head _))) rfl (.agg rfl Ta58 (.tail _ (.head _)) rfl (.nil))) ?_
    exact ⟨_, _, _, _, _, _, rfl, by grind⟩
  try simp at hc2
  refine wp_seq ?_
  refine wp_region_lit ?_
  refine l_op rfl (r_bin hst rfl rfl rfl rfl rfl ?_)
  clear hst; intro a hst
  refine l_op rfl (r_assign hst rfl rfl ?_)
  clear hst; intro a hst
  refine wpList_nil ?_
  refine then_n ?_
  refine x_cond hst rfl (fun hc3 => ?_) (fun hc3 => ?_)
  · try simp at hc3
    refine wp_seq ?_
    refine wp_region_lit ?_
    refine l_op rfl (r_fieldAddr hst rfl Tf48_1 rfl ?_)
    clear hst; intro a hst
    refine l_op rfl (r_loads hst rfl Ts3 (.tail _ (.tail _ (.tail _ (.head _)))) rfl rfl ?_)
    clear hst; intro a hst
    refine l_op rfl (r_bin hst rfl rfl rfl rfl rfl ?_)
    clear hst; intro a hst
    rw [wrap_in _ (by omega) (by omega)] at hst
    refine l_op rfl (r_fieldAddr hst rfl Tf48_1 rfl ?_)
    clear hst; intro a hst
    refine l_op rfl (r_store hst rfl rfl rfl Tsz3 rfl (.tail (.tail (.tail (.head (.there (.here (.nil (Nat.zero_le _)))))))) ?_)
    clear hst; intro w hst
    refine wpList_nil ?_
    refine then_n ?_
    refine wp_seq ?_
    refine x_drawh (by kernel_rfl) hst (.cons_cons _ (.cons _ (.cons _ (.cons_cons _ (.slnil))))) ?_
    clear hst; intro w hst
    refine h_take (i := 0) hst (.cons_cons _ (.cons _ (.cons _ (.cons_cons _ (.slnil))))) rfl rfl rfl rfl (by kernel_rfl) (by kernel_rfl) (by kernel_rfl) (fun _ _ _ h => h) (fun _ _ _ _ hst => q_loada hst rfl Ta48 (.tail _ (.head _)) (.cons rfl (.cons rfl (.cons rfl (.cons rfl (.cons rfl (.cons rfl (.nil))))))) rfl) ?_
    clear hst; intro a hst
    refine h_take (i := 1) hst (.cons_cons _ (.cons _ (.cons _ (.cons_cons _ (.slnil))))) rfl rfl rfl rfl (by kernel_rfl) (by kernel_rfl) (by kernel_rfl) (fun _ _ _ h => h) (fun _ _ _ _ hst => q_fieldAddr hst rfl Tf50_1) ?_
    clear hst; intro a hst
    refine h_take (i := 2) hst (.cons_cons _ (.cons _ (.cons _ (.cons_cons _ (.slnil))))) rfl rfl rfl rfl (by kernel_rfl) (by kernel_rfl) (by kernel_rfl) (fun _ _ _ h => h) (fun _ _ _ _ hst => q_loads hst rfl Ts9 (.head _) rfl) ?_
    clear hst; intro a hst
    refine h_take (i := 3) hst (.cons_cons _ (.cons _ (.cons _ (.cons_cons _ (.slnil))))) rfl rfl rfl rfl (by kernel_rfl) (by kernel_rfl) (by kernel_rfl) (fun _ _ _ h => h) (fun _ _ _ _ hst => q_fieldAddr hst rfl Tf50_3) ?_
    clear hst; intro a hst
    refine h_take (i := 4) hst (.cons_cons _ (.cons _ (.cons _ (.cons_cons _ (.slnil))))) rfl rfl rfl rfl (by kernel_rfl) (by kernel_rfl) (by kernel_rfl) (fun _ _ _ h => h) (fun _ _ _ _ hst => q_loada hst rfl Ta28 (.head _) (.cons rfl (.cons rfl (.nil))) rfl) ?_
    clear hst; intro a hst
    refine h_take (i := 5) hst (.cons_cons _ (.cons _ (.cons _ (.cons_cons _ (.slnil))))) rfl rfl rfl rfl (by kernel_rfl) (by kernel_rfl) (by kernel_rfl) (fun _ _ _ h => h) (fun _ _ _ _ hst => q_build (ps := [(0, (Operand.const (Value.int IntKind.i64 2))), (1, (Operand.tmp 35)), (4, (Operand.tmp 37))]) hst Tso58 Tz58 (.cons Tf58_0 rfl rfl (.here (.nil (Nat.zero_le _))) (.cons Tf58_1 rfl rfl (.there (.here (.nil (Nat.zero_le _)))) (.cons Tf58_4 rfl rfl (.there (.there (.there (.there (.here (.here (.nil (Nat.zero_le _)))))))) (.nil))))) ?_
    clear hst; intro a hst
    refine h_one (i := 6) (by kernel_rfl) rfl rfl (r_store hst rfl rfl rfl Tsz48 rfl (.tail (.tail (.head (.here (.here (.here (.here (.here (.here (.nil (Nat.zero_le _))))))))))) ?_)
    clear hst; intro w hst
    refine ⟨hst.held (.cons_cons _ (.cons _ (.cons _ (.cons_cons _ (.slnil))))), ?_⟩
    refine h_one (i := 7) (by kernel_rfl) rfl rfl (r_store hst rfl rfl rfl Tsz58 rfl (.tail (.head (.here (.here (.here (.here (.here (.here (.nil (Nat.zero_le _)))))))))) ?_)
    clear hst; intro w hst
    refine ⟨hst.held (.cons_cons _ (.cons _ (.cons _ (.cons_cons _ (.slnil))))), ?_⟩
    refine h_done (by kernel_rfl) ?_
    refine then_n ?_
    refine wp_ret ?_
    refine inb_r ?_
    refine x_ret (rs := [.cell 2 48, .cell 3 58]) hst rfl (.agg rfl Ta48 (.tail _ (.tail _ (.head _))) rfl (.agg rfl Ta58 (.tail _ (.head _)) rfl (.nil))) ?_
    exact ⟨_, _, _, _, _, _, rfl, by grind⟩
  try simp at hc3
  refine wp_seq ?_
  refine wp_region_lit ?_
  refine l_op rfl (r_bin hst rfl rfl rfl rfl rfl ?_)
  clear hst; intro a hst
  refine l_op rfl (r_assign hst rfl rfl ?_)
  clear hst; intro a hst
  refine wpList_nil ?_
  refine then_n ?_
  refine x_cond hst rfl (fun hc4 => ?_) (fun hc4 => ?_)
  · try simp at hc4
    refine wp_seq ?_
    refine wp_region_lit ?_
    refine l_op rfl (r_fieldAddr hst rfl Tf48_1 rfl ?_)
    clear hst; intro a hst
    refine l_op rfl (r_loads hst rfl Ts3 (.tail _ (.tail _ (.tail _ (.head _)))) rfl rfl ?_)
    clear hst; intro a hst
    refine l_op rfl (r_bin hst rfl rfl rfl rfl rfl ?_)
    clear hst; intro a hst
    rw [wrap_in _ (by omega) (by omega)] at hst
    refine l_op rfl (r_fieldAddr hst rfl Tf48_1 rfl ?_)
    clear hst; intro a hst
    refine l_op rfl (r_store hst rfl rfl rfl Tsz3 rfl (.tail (.tail (.tail (.head (.there (.here (.nil (Nat.zero_le _)))))))) ?_)
    clear hst; intro w hst
    refine wpList_nil ?_
    refine then_n ?_
    refine wp_seq ?_
    refine x_drawh (by kernel_rfl) hst (.cons_cons _ (.cons _ (.cons _ (.cons_cons _ (.slnil))))) ?_
    clear hst; intro w hst
    refine h_take (i := 0) hst (.cons_cons _ (.cons _ (.cons _ (.cons_cons _ (.slnil))))) rfl rfl rfl rfl (by kernel_rfl) (by kernel_rfl) (by kernel_rfl) (fun _ _ _ h => h) (fun _ _ _ _ hst => q_loada hst rfl Ta48 (.tail _ (.head _)) (.cons rfl (.cons rfl (.cons rfl (.cons rfl (.cons rfl (.cons rfl (.nil))))))) rfl) ?_
    clear hst; intro a hst
    refine h_take (i := 1) hst (.cons_cons _ (.cons _ (.cons _ (.cons_cons _ (.slnil))))) rfl rfl rfl rfl (by kernel_rfl) (by kernel_rfl) (by kernel_rfl) (fun _ _ _ h => h) (fun _ _ _ _ hst => q_fieldAddr hst rfl Tf50_2) ?_
    clear hst; intro a hst
    refine h_take (i := 2) hst (.cons_cons _ (.cons _ (.cons _ (.cons_cons _ (.slnil))))) rfl rfl rfl rfl (by kernel_rfl) (by kernel_rfl) (by kernel_rfl) (fun _ _ _ h => h) (fun _ _ _ _ hst => q_loads hst rfl Ts3 (.head _) rfl) ?_
    clear hst; intro a hst
    refine h_take (i := 3) hst (.cons_cons _ (.cons _ (.cons _ (.cons_cons _ (.slnil))))) rfl rfl rfl rfl (by kernel_rfl) (by kernel_rfl) (by kernel_rfl) (fun _ _ _ h => h) (fun _ _ _ _ hst => q_fieldAddr hst rfl Tf50_3) ?_
    clear hst; intro a hst
    refine h_take (i := 4) hst (.cons_cons _ (.cons _ (.cons _ (.cons_cons _ (.slnil))))) rfl rfl rfl rfl (by kernel_rfl) (by kernel_rfl) (by kernel_rfl) (fun _ _ _ h => h) (fun _ _ _ _ hst => q_loada hst rfl Ta28 (.head _) (.cons rfl (.cons rfl (.nil))) rfl) ?_
    clear hst; intro a hst
    refine h_take (i := 5) hst (.cons_cons _ (.cons _ (.cons _ (.cons_cons _ (.slnil))))) rfl rfl rfl rfl (by kernel_rfl) (by kernel_rfl) (by kernel_rfl) (fun _ _ _ h => h) (fun _ _ _ _ hst => q_build (ps := [(0, (Operand.const (Value.int IntKind.i64 3))), (2, (Operand.tmp 47)), (4, (Operand.tmp 49))]) hst Tso58 Tz58 (.cons Tf58_0 rfl rfl (.here (.nil (Nat.zero_le _))) (.cons Tf58_2 rfl rfl (.there (.there (.here (.nil (Nat.zero_le _))))) (.cons Tf58_4 rfl rfl (.there (.there (.there (.there (.here (.here (.nil (Nat.zero_le _)))))))) (.nil))))) ?_
    clear hst; intro a hst
    refine h_one (i := 6) (by kernel_rfl) rfl rfl (r_store hst rfl rfl rfl Tsz48 rfl (.tail (.tail (.head (.here (.here (.here (.here (.here (.here (.nil (Nat.zero_le _))))))))))) ?_)
    clear hst; intro w hst
    refine ⟨hst.held (.cons_cons _ (.cons _ (.cons _ (.cons_cons _ (.slnil))))), ?_⟩
    refine h_one (i := 7) (by kernel_rfl) rfl rfl (r_store hst rfl rfl rfl Tsz58 rfl (.tail (.head (.here (.here (.here (.here (.here (.here (.nil (Nat.zero_le _)))))))))) ?_)
    clear hst; intro w hst
    refine ⟨hst.held (.cons_cons _ (.cons _ (.cons _ (.cons_cons _ (.slnil))))), ?_⟩
    refine h_done (by kernel_rfl) ?_
    refine then_n ?_
    refine wp_ret ?_
    refine inb_r ?_
    refine x_ret (rs := [.cell 2 48, .cell 3 58]) hst rfl (.agg rfl Ta48 (.tail _ (.tail _ (.head _))) rfl (.agg rfl Ta58 (.tail _ (.head _)) rfl (.nil))) ?_
    exact ⟨_, _, _, _, _, _, rfl, by grind⟩
  try simp at hc4
  refine wp_seq ?_
  refine wp_region_lit ?_
  refine l_op rfl (r_loada hst rfl Ta48 (.tail _ (.tail _ (.tail _ (.head _)))) (.cons rfl (.cons rfl (.cons rfl (.cons rfl (.cons rfl (.cons rfl (.nil))))))) rfl rfl ?_)
  clear hst; intro a hst
  refine l_op rfl (r_build (ps := []) hst Tso58 Tz58 (.nil) rfl ?_)
  clear hst; intro a hst
  refine l_op rfl (r_store hst rfl rfl rfl Tsz48 rfl (.tail (.tail (.head (.here (.here (.here (.here (.here (.here (.nil (Nat.zero_le _))))))))))) ?_)
  clear hst; intro w hst
  refine l_op rfl (r_store hst rfl rfl rfl Tsz58 rfl (.tail (.head (.here (.here (.here (.here (.here (.here (.nil (Nat.zero_le _)))))))))) ?_)
  clear hst; intro w hst
  refine wpList_nil ?_
  refine then_n ?_
  refine wp_ret ?_
  refine inb_r ?_
  refine x_ret (rs := [.cell 2 48, .cell 3 58]) hst rfl (.agg rfl Ta48 (.tail _ (.tail _ (.head _))) rfl (.agg rfl Ta58 (.tail _ (.head _)) rfl (.nil))) ?_
  exact ⟨_, _, _, _, _, _, rfl, by grind⟩

theorem starts_c {w : World} {U : Mk} (k m p q : Int) (s : ByteArray) :
    CallsS Tryz.prog 102 [.agg #[.int .i64 k, .string s, .int .i64 m, .int .i64 p, .int .i64 q]] w U (fun v _ _ => ∃ b : Bool, v = .bool b ∧ (b = true → 0 < k)) := by
  refine x_enter (F := fun _ _ => True) (n := 26) Tryz.func102 rfl rfl (by simp) (.cons (d := 0) rfl (.nil)) (Mono.true_) (trivial) ?_
  intro a hst
  refine wp_seq ?_
  refine wp_region_lit ?_
  refine l_op rfl (r_box hst rfl rfl rfl ?_)
  clear hst; intro a w g1 hst
  refine l_op rfl (r_assign hst rfl rfl ?_)
  clear hst; intro a hst
  refine wpList_nil ?_
  refine then_n ?_
  refine wp_seq ?_
  refine wp_region_lit ?_
  refine l_op rfl (r_fieldAddr hst rfl Tf50_0 rfl ?_)
  clear hst; intro a hst
  refine l_op rfl (r_loads hst rfl Ts3 (.head _) rfl rfl ?_)
  clear hst; intro a hst
  refine l_op rfl (r_bin hst rfl rfl rfl rfl rfl ?_)
  clear hst; intro a hst
  refine l_op rfl (r_move hst rfl rfl ?_)
  clear hst; intro a hst
  refine hst.split (t := 6) rfl (fun hc1 hst => ?_) (fun hc1 hst => ?_)
  · simp at hc1
    refine l_off hst rfl rfl rfl (by decide) rfl rfl ?_
    clear hst; intro a hst
    refine l_off hst rfl rfl rfl (by decide) rfl rfl ?_
    clear hst; intro a hst
    refine l_off hst rfl rfl rfl (by decide) rfl rfl ?_
    clear hst; intro a hst
    refine l_op rfl (r_pick hst rfl rfl rfl ?_)
    clear hst; intro a hst
    refine l_op rfl (r_move hst rfl rfl ?_)
    clear hst; intro a hst
    refine l_off hst rfl rfl rfl (by decide) rfl rfl ?_
    clear hst; intro a hst
    refine l_off hst rfl rfl rfl (by decide) rfl rfl ?_
    clear hst; intro a hst
    refine l_off hst rfl rfl rfl (by decide) rfl rfl ?_
    clear hst; intro a hst
    refine l_op rfl (r_pick hst rfl rfl rfl ?_)
    clear hst; intro a hst
    refine l_op rfl (r_move hst rfl rfl ?_)
    clear hst; intro a hst
    refine l_off hst rfl rfl rfl (by decide) rfl rfl ?_
    clear hst; intro a hst
    refine l_off hst rfl rfl rfl (by decide) rfl rfl ?_
    clear hst; intro a hst
    refine l_off hst rfl rfl rfl (by decide) rfl rfl ?_
    clear hst; intro a hst
    refine l_off hst rfl rfl rfl (by decide) rfl rfl ?_
    clear hst; intro a hst
    refine l_undef hst rfl rfl rfl rfl rfl ?_
    clear hst; intro a hst
    refine l_undef hst rfl rfl rfl rfl rfl ?_
    clear hst; intro a hst
    refine l_undef hst rfl rfl rfl rfl rfl ?_
    clear hst; intro a hst
    refine l_off hst rfl rfl rfl (by decide) rfl rfl ?_
    clear hst; intro a hst
    refine l_op rfl (r_pick hst rfl rfl rfl ?_)
    clear hst; intro a hst
    refine l_op rfl (r_assign hst rfl rfl ?_)
    clear hst; intro a hst
    refine wpList_nil ?_
    refine then_n ?_
    refine wp_ret ?_
    refine x_ret (rs := [.tmp 2]) hst rfl (.tmp rfl (.nil)) ?_
    exact ⟨_, rfl, by grind⟩
  simp at hc1
  refine l_on hst rfl rfl rfl (r_fieldAddr hst rfl Tf50_0 rfl ?_)
  clear hst; intro a hst
  refine l_on hst rfl rfl rfl (r_loads hst rfl Ts3 (.head _) rfl rfl ?_)
  clear hst; intro a hst
  refine l_on hst rfl rfl rfl (r_bin hst rfl rfl rfl rfl rfl ?_)
  clear hst; intro a hst
  refine l_op rfl (r_pick hst rfl rfl rfl ?_)
  clear hst; intro a hst
  refine l_op rfl (r_move hst rfl rfl ?_)
  clear hst; intro a hst
  refine hst.split (t := 11) rfl (fun hc2 hst => ?_) (fun hc2 hst => ?_)
  · simp at hc2
    refine l_off hst rfl rfl rfl (by decide) rfl rfl ?_
    clear hst; intro a hst
    refine l_off hst rfl rfl rfl (by decide) rfl rfl ?_
    clear hst; intro a hst
    refine l_off hst rfl rfl rfl (by decide) rfl rfl ?_
    clear hst; intro a hst
    refine l_op rfl (r_pick hst rfl rfl rfl ?_)
    clear hst; intro a hst
    refine l_op rfl (r_move hst rfl rfl ?_)
    clear hst; intro a hst
    refine l_off hst rfl rfl rfl (by decide) rfl rfl ?_
    clear hst; intro a hst
    refine l_off hst rfl rfl rfl (by decide) rfl rfl ?_
    clear hst; intro a hst
    refine l_off hst rfl rfl rfl (by decide) rfl rfl ?_
    clear hst; intro a hst
    refine l_off hst rfl rfl rfl (by decide) rfl rfl ?_
    clear hst; intro a hst
    refine l_undef hst rfl rfl rfl rfl rfl ?_
    clear hst; intro a hst
    refine l_undef hst rfl rfl rfl rfl rfl ?_
    clear hst; intro a hst
    refine l_undef hst rfl rfl rfl rfl rfl ?_
    clear hst; intro a hst
    refine l_off hst rfl rfl rfl (by decide) rfl rfl ?_
    clear hst; intro a hst
    refine l_op rfl (r_pick hst rfl rfl rfl ?_)
    clear hst; intro a hst
    refine l_op rfl (r_assign hst rfl rfl ?_)
    clear hst; intro a hst
    refine wpList_nil ?_
    refine then_n ?_
    refine wp_ret ?_
    refine x_ret (rs := [.tmp 2]) hst rfl (.tmp rfl (.nil)) ?_
    exact ⟨_, rfl, by grind⟩
  simp at hc2
  refine l_on hst rfl rfl rfl (r_fieldAddr hst rfl Tf50_0 rfl ?_)
  clear hst; intro a hst
  refine l_on hst rfl rfl rfl (r_loads hst rfl Ts3 (.head _) rfl rfl ?_)
  clear hst; intro a hst
  refine l_on hst rfl rfl rfl (r_bin hst rfl rfl rfl rfl rfl ?_)
  clear hst; intro a hst
  refine l_op rfl (r_pick hst rfl rfl rfl ?_)
  clear hst; intro a hst
  refine l_op rfl (r_move hst rfl rfl ?_)
  clear hst; intro a hst
  refine hst.split (t := 16) rfl (fun hc3 hst => ?_) (fun hc3 hst => ?_)
  · simp at hc3
    refine l_off hst rfl rfl rfl (by decide) rfl rfl ?_
    clear hst; intro a hst
    refine l_off hst rfl rfl rfl (by decide) rfl rfl ?_
    clear hst; intro a hst
    refine l_off hst rfl rfl rfl (by decide) rfl rfl ?_
    clear hst; intro a hst
    refine l_off hst rfl rfl rfl (by decide) rfl rfl ?_
    clear hst; intro a hst
    refine l_undef hst rfl rfl rfl rfl rfl ?_
    clear hst; intro a hst
    refine l_undef hst rfl rfl rfl rfl rfl ?_
    clear hst; intro a hst
    refine l_undef hst rfl rfl rfl rfl rfl ?_
    clear hst; intro a hst
    refine l_off hst rfl rfl rfl (by decide) rfl rfl ?_
    clear hst; intro a hst
    refine l_op rfl (r_pick hst rfl rfl rfl ?_)
    clear hst; intro a hst
    refine l_op rfl (r_assign hst rfl rfl ?_)
    clear hst; intro a hst
    refine wpList_nil ?_
    refine then_n ?_
    refine wp_ret ?_
    refine x_ret (rs := [.tmp 2]) hst rfl (.tmp rfl (.nil)) ?_
    exact ⟨_, rfl, by grind⟩
  simp at hc3
  refine l_on hst rfl rfl rfl (r_fieldAddr hst rfl Tf50_0 rfl ?_)
  clear hst; intro a hst
  refine l_on hst rfl rfl rfl (r_loads hst rfl Ts3 (.head _) rfl rfl ?_)
  clear hst; intro a hst
  refine l_on hst rfl rfl rfl (r_bin hst rfl rfl rfl rfl rfl ?_)
  clear hst; intro a hst
  refine l_on hst rfl rfl rfl (r_move hst rfl rfl ?_)
  clear hst; intro a hst
  refine hst.split (t := 20) rfl (fun hc4 hst => ?_) (fun hc4 hst => ?_)
  · simp at hc4
    refine l_on hst rfl rfl rfl (r_fieldAddr hst rfl Tf50_1 rfl ?_)
    clear hst; intro a hst
    refine l_on hst rfl rfl rfl (r_loads hst rfl Ts9 (.head _) rfl rfl ?_)
    clear hst; intro a hst
    refine l_on hst rfl rfl rfl (r_bin hst rfl rfl rfl rfl rfl ?_)
    clear hst; intro a hst
    refine l_on hst rfl rfl rfl (r_pick hst rfl rfl rfl ?_)
    clear hst; intro a hst
    refine l_op rfl (r_pick hst rfl rfl rfl ?_)
    clear hst; intro a hst
    refine l_op rfl (r_assign hst rfl rfl ?_)
    clear hst; intro a hst
    refine wpList_nil ?_
    refine then_n ?_
    refine wp_ret ?_
    refine x_ret (rs := [.tmp 2]) hst rfl (.tmp rfl (.nil)) ?_
    exact ⟨_, rfl, by grind⟩
  simp at hc4
  refine l_off hst rfl rfl rfl (by decide) rfl rfl ?_
  clear hst; intro a hst
  refine l_off hst rfl rfl rfl (by decide) rfl rfl ?_
  clear hst; intro a hst
  refine l_off hst rfl rfl rfl (by decide) rfl rfl ?_
  clear hst; intro a hst
  refine l_on hst rfl rfl rfl (r_pick hst rfl rfl rfl ?_)
  clear hst; intro a hst
  refine l_op rfl (r_pick hst rfl rfl rfl ?_)
  clear hst; intro a hst
  refine l_op rfl (r_assign hst rfl rfl ?_)
  clear hst; intro a hst
  refine wpList_nil ?_
  refine then_n ?_
  refine wp_ret ?_
  refine x_ret (rs := [.tmp 2]) hst rfl (.tmp rfl (.nil)) ?_
  exact ⟨_, rfl, by grind⟩

theorem binds_c {w : World} {U : Mk} (s : ByteArray) :
    CallsS Tryz.prog 82 [.string s] w U (fun v _ _ => ∃ k : Int, v = .int .i64 k) := by
  refine x_enter (F := fun _ _ => True) (n := 14) Tryz.func82 rfl rfl (by simp) (.cons (d := 0) rfl (.nil)) (Mono.true_) (trivial) ?_
  intro a hst
  refine wp_seq ?_
  refine wp_region_lit ?_
  refine l_op rfl (r_assign hst rfl rfl ?_)
  clear hst; intro a hst
  refine wpList_nil ?_
  refine then_n ?_
  refine wp_seq ?_
  refine wp_region_lit ?_
  refine l_op rfl (r_move hst rfl rfl ?_)
  clear hst; intro a hst
  refine wpList_nil ?_
  refine then_n ?_
  refine wp_block ?_
  refine wp_seq ?_
  refine wp_region_lit ?_
  refine l_op rfl (r_bin hst rfl rfl rfl rfl rfl ?_)
  clear hst; intro a hst
  refine l_op rfl (r_assign hst rfl rfl ?_)
  clear hst; intro a hst
  refine wpList_nil ?_
  refine then_n ?_
  refine x_cond hst rfl (fun hc1 => ?_) (fun hc1 => ?_)
  · simp at hc1
    refine wp_seq ?_
    refine wp_region_lit ?_
    refine l_op rfl (r_assign hst rfl rfl ?_)
    clear hst; intro a hst
    refine wpList_nil ?_
    refine then_n ?_
    refine wp_ret ?_
    refine inb_r ?_
    refine x_ret (rs := [.tmp 2]) hst rfl (.tmp rfl (.nil)) ?_
    exact ⟨_, rfl⟩
  simp at hc1
  refine wp_seq ?_
  refine wp_seq ?_
  refine wp_region_lit ?_
  refine l_op rfl (r_bin hst rfl rfl rfl rfl rfl ?_)
  clear hst; intro a hst
  refine l_op rfl (r_assign hst rfl rfl ?_)
  clear hst; intro a hst
  refine wpList_nil ?_
  refine then_n ?_
  refine x_cond hst rfl (fun hc2 => ?_) (fun hc2 => ?_)
  · simp at hc2
    refine wp_skip ?_
    refine then_n ?_
    refine x_cond hst rfl (fun hc3 => ?_) (fun hc3 => ?_)
    · simp at hc3
      refine wp_seq ?_
      refine wp_region_lit ?_
      refine l_op rfl (r_assign hst rfl rfl ?_)
      clear hst; intro a hst
      refine wpList_nil ?_
      refine then_n ?_
      refine wp_ret ?_
      refine inb_r ?_
      refine x_ret (rs := [.tmp 2]) hst rfl (.tmp rfl (.nil)) ?_
      exact ⟨_, rfl⟩
    simp at hc3
    refine wp_seq ?_
    refine wp_seq ?_
    refine wp_region_lit ?_
    refine l_op rfl (r_bin hst rfl rfl rfl rfl rfl ?_)
    clear hst; intro a hst
    refine l_op rfl (r_assign hst rfl rfl ?_)
    clear hst; intro a hst
    refine wpList_nil ?_
    refine then_n ?_
    refine x_cond hst rfl (fun hc4 => ?_) (fun hc4 => ?_)
    · simp at hc4
      refine wp_skip ?_
      refine then_n ?_
      refine x_cond hst rfl (fun hc5 => ?_) (fun hc5 => ?_)
      · simp at hc5
        refine wp_seq ?_
        refine wp_region_lit ?_
        refine l_op rfl (r_assign hst rfl rfl ?_)
        clear hst; intro a hst
        refine wpList_nil ?_
        refine then_n ?_
        refine wp_ret ?_
        refine inb_r ?_
        refine x_ret (rs := [.tmp 2]) hst rfl (.tmp rfl (.nil)) ?_
        exact ⟨_, rfl⟩
      simp at hc5
      refine wp_seq ?_
      refine wp_region_lit ?_
      refine l_op rfl (r_bin hst rfl rfl rfl rfl rfl ?_)
      clear hst; intro a hst
      refine l_op rfl (r_assign hst rfl rfl ?_)
      clear hst; intro a hst
      refine wpList_nil ?_
      refine then_n ?_
      refine x_cond hst rfl (fun hc6 => ?_) (fun hc6 => ?_)
      · simp at hc6
        refine wp_seq ?_
        refine wp_region_lit ?_
        refine l_op rfl (r_assign hst rfl rfl ?_)
        clear hst; intro a hst
        refine wpList_nil ?_
        refine then_n ?_
        refine wp_ret ?_
        refine inb_r ?_
        refine x_ret (rs := [.tmp 2]) hst rfl (.tmp rfl (.nil)) ?_
        exact ⟨_, rfl⟩
      simp at hc6
      refine wp_seq ?_
      refine wp_region_lit ?_
      refine l_op rfl (r_assign hst rfl rfl ?_)
      clear hst; intro a hst
      refine wpList_nil ?_
      refine then_n ?_
      refine wp_ret ?_
      refine inb_r ?_
      refine x_ret (rs := [.tmp 2]) hst rfl (.tmp rfl (.nil)) ?_
      exact ⟨_, rfl⟩
    simp at hc4
    refine wp_region_lit ?_
    refine l_op rfl (r_bin hst rfl rfl rfl rfl rfl ?_)
    clear hst; intro a hst
    refine l_op rfl (r_assign hst rfl rfl ?_)
    clear hst; intro a hst
    refine wpList_nil ?_
    refine then_n ?_
    refine x_cond hst rfl (fun hc7 => ?_) (fun hc7 => ?_)
    · simp at hc7
      refine wp_seq ?_
      refine wp_region_lit ?_
      refine l_op rfl (r_assign hst rfl rfl ?_)
      clear hst; intro a hst
      refine wpList_nil ?_
      refine then_n ?_
      refine wp_ret ?_
      refine inb_r ?_
      refine x_ret (rs := [.tmp 2]) hst rfl (.tmp rfl (.nil)) ?_
      exact ⟨_, rfl⟩
    simp at hc7
    refine wp_seq ?_
    refine wp_region_lit ?_
    refine l_op rfl (r_bin hst rfl rfl rfl rfl rfl ?_)
    clear hst; intro a hst
    refine l_op rfl (r_assign hst rfl rfl ?_)
    clear hst; intro a hst
    refine wpList_nil ?_
    refine then_n ?_
    refine x_cond hst rfl (fun hc8 => ?_) (fun hc8 => ?_)
    · simp at hc8
      refine wp_seq ?_
      refine wp_region_lit ?_
      refine l_op rfl (r_assign hst rfl rfl ?_)
      clear hst; intro a hst
      refine wpList_nil ?_
      refine then_n ?_
      refine wp_ret ?_
      refine inb_r ?_
      refine x_ret (rs := [.tmp 2]) hst rfl (.tmp rfl (.nil)) ?_
      exact ⟨_, rfl⟩
    simp at hc8
    refine wp_seq ?_
    refine wp_region_lit ?_
    refine l_op rfl (r_assign hst rfl rfl ?_)
    clear hst; intro a hst
    refine wpList_nil ?_
    refine then_n ?_
    refine wp_ret ?_
    refine inb_r ?_
    refine x_ret (rs := [.tmp 2]) hst rfl (.tmp rfl (.nil)) ?_
    exact ⟨_, rfl⟩
  simp at hc2
  refine wp_region_lit ?_
  refine l_op rfl (r_bin hst rfl rfl rfl rfl rfl ?_)
  clear hst; intro a hst
  refine l_op rfl (r_assign hst rfl rfl ?_)
  clear hst; intro a hst
  refine wpList_nil ?_
  refine then_n ?_
  refine x_cond hst rfl (fun hc9 => ?_) (fun hc9 => ?_)
  · simp at hc9
    refine wp_seq ?_
    refine wp_region_lit ?_
    refine l_op rfl (r_assign hst rfl rfl ?_)
    clear hst; intro a hst
    refine wpList_nil ?_
    refine then_n ?_
    refine wp_ret ?_
    refine inb_r ?_
    refine x_ret (rs := [.tmp 2]) hst rfl (.tmp rfl (.nil)) ?_
    exact ⟨_, rfl⟩
  simp at hc9
  refine wp_seq ?_
  refine wp_seq ?_
  refine wp_region_lit ?_
  refine l_op rfl (r_bin hst rfl rfl rfl rfl rfl ?_)
  clear hst; intro a hst
  refine l_op rfl (r_assign hst rfl rfl ?_)
  clear hst; intro a hst
  refine wpList_nil ?_
  refine then_n ?_
  refine x_cond hst rfl (fun hc10 => ?_) (fun hc10 => ?_)
  · simp at hc10
    refine wp_skip ?_
    refine then_n ?_
    refine x_cond hst rfl (fun hc11 => ?_) (fun hc11 => ?_)
    · simp at hc11
      refine wp_seq ?_
      refine wp_region_lit ?_
      refine l_op rfl (r_assign hst rfl rfl ?_)
      clear hst; intro a hst
      refine wpList_nil ?_
      refine then_n ?_
      refine wp_ret ?_
      refine inb_r ?_
      refine x_ret (rs := [.tmp 2]) hst rfl (.tmp rfl (.nil)) ?_
      exact ⟨_, rfl⟩
    simp at hc11
    refine wp_seq ?_
    refine wp_region_lit ?_
    refine l_op rfl (r_bin hst rfl rfl rfl rfl rfl ?_)
    clear hst; intro a hst
    refine l_op rfl (r_assign hst rfl rfl ?_)
    clear hst; intro a hst
    refine wpList_nil ?_
    refine then_n ?_
    refine x_cond hst rfl (fun hc12 => ?_) (fun hc12 => ?_)
    · simp at hc12
      refine wp_seq ?_
      refine wp_region_lit ?_
      refine l_op rfl (r_assign hst rfl rfl ?_)
      clear hst; intro a hst
      refine wpList_nil ?_
      refine then_n ?_
      refine wp_ret ?_
      refine inb_r ?_
      refine x_ret (rs := [.tmp 2]) hst rfl (.tmp rfl (.nil)) ?_
      exact ⟨_, rfl⟩
    simp at hc12
    refine wp_seq ?_
    refine wp_region_lit ?_
    refine l_op rfl (r_assign hst rfl rfl ?_)
    clear hst; intro a hst
    refine wpList_nil ?_
    refine then_n ?_
    refine wp_ret ?_
    refine inb_r ?_
    refine x_ret (rs := [.tmp 2]) hst rfl (.tmp rfl (.nil)) ?_
    exact ⟨_, rfl⟩
  simp at hc10
  refine wp_region_lit ?_
  refine l_op rfl (r_bin hst rfl rfl rfl rfl rfl ?_)
  clear hst; intro a hst
  refine l_op rfl (r_assign hst rfl rfl ?_)
  clear hst; intro a hst
  refine wpList_nil ?_
  refine then_n ?_
  refine x_cond hst rfl (fun hc13 => ?_) (fun hc13 => ?_)
  · simp at hc13
    refine wp_seq ?_
    refine wp_region_lit ?_
    refine l_op rfl (r_assign hst rfl rfl ?_)
    clear hst; intro a hst
    refine wpList_nil ?_
    refine then_n ?_
    refine wp_ret ?_
    refine inb_r ?_
    refine x_ret (rs := [.tmp 2]) hst rfl (.tmp rfl (.nil)) ?_
    exact ⟨_, rfl⟩
  simp at hc13
  refine wp_seq ?_
  refine wp_region_lit ?_
  refine l_op rfl (r_bin hst rfl rfl rfl rfl rfl ?_)
  clear hst; intro a hst
  refine l_op rfl (r_assign hst rfl rfl ?_)
  clear hst; intro a hst
  refine wpList_nil ?_
  refine then_n ?_
  refine x_cond hst rfl (fun hc14 => ?_) (fun hc14 => ?_)
  · simp at hc14
    refine wp_seq ?_
    refine wp_region_lit ?_
    refine l_op rfl (r_assign hst rfl rfl ?_)
    clear hst; intro a hst
    refine wpList_nil ?_
    refine then_n ?_
    refine wp_ret ?_
    refine inb_r ?_
    refine x_ret (rs := [.tmp 2]) hst rfl (.tmp rfl (.nil)) ?_
    exact ⟨_, rfl⟩
  simp at hc14
  refine wp_seq ?_
  refine wp_region_lit ?_
  refine l_op rfl (r_assign hst rfl rfl ?_)
  clear hst; intro a hst
  refine wpList_nil ?_
  refine then_n ?_
  refine wp_ret ?_
  refine inb_r ?_
  refine x_ret (rs := [.tmp 2]) hst rfl (.tmp rfl (.nil)) ?_
  exact ⟨_, rfl⟩
end Go.Proofs.YtjnjkbmegfkiiaaGreat
