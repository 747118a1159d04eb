/- Contract of the reader of modules. -/
import Derived.Test.YtjnjkbmegfkiiaaGreatR4
import Derived.Test.YtjnjkbmegfkiiaaGreatR5
namespace Go.Proofs.YtjnjkbmegfkiiaaGreat
open Go.RowKit
set_option maxRecDepth 10000
set_option linter.unusedVariables false
set_option linter.unusedSimpArgs false
attribute [local irreducible] Oper.wp Code.wp wpList wpAny wpOp Calls CallsS
def InvMod (w0 : World) (U0 : Mk) (A : Option Addr) (n c : Nat) (p0 q0 : Int) (g1 g2 g4 g5 : Nat) (mz : Nat) (a : Act) (w : World) : Prop :=
  ∃ (U : Mk) (i x y : Int) (b : Bool) (B B' : Option Addr) (l cc l' cc' : Nat) (xs xs' : List Value) (ts : List DaT) (ts' : List RuT),
    Sta w0 U0 71 [(2, .pointer (some ⟨g1, 0, none⟩)), (3, .int .i64 0), (4, .pointer (some ⟨g2, 0, none⟩)), (8, .pointer (some ⟨g4, 0, none⟩)), (9, .pointer (some ⟨g5, 0, none⟩))] [⟨g5, 26, [.slice B l cc, .slice B' l' cc']⟩, ⟨g4, 48, [.slice A n c, .int .i64 i, .int .i64 0, .bool b, .int .i64 x, .int .i64 y]⟩, ⟨g2, 28, [.int .i64 0, .int .i64 0]⟩, ⟨g1, 26, [.slice none 0 0, .slice none 0 0]⟩] [⟨.slice B l cc, 42, 5, l⟩, ⟨.slice B' l' cc', 60, 11, l'⟩]
      (fun w U => ((Cont (.slice B l cc) xs w U ∧ Flat kD xs ts w U) ∧ (Cont (.slice B' l' cc') xs' w U ∧ Flat kR xs' ts' w U)) ∧ Toks A n w U) a w U ∧
    0 ≤ i ∧ i ≤ n ∧ ts.length = l ∧ l ≤ cc ∧ xs.length = l * 5 ∧ ts'.length = l' ∧ l' ≤ cc' ∧ xs'.length = l' * 11 ∧ l + l' + mu n i b ≤ 2 * n + 2 ∧ mz = mu n i b

theorem module_c {w : World} {U : Mk} (s : ByteArray) (hsm : s.size ≤ 140737488355328) :
    CallsS Tryz.prog 5 [.string s] w U (fun v w' U' => ∃ (B B' : Option Addr) (l c l' c' : Nat) (e p q : Int) (ds : List DaT) (rs : List RuT), v = .tuple #[.agg #[.slice B l c, .slice B' l' c'], .int .i64 e, .agg #[.int .i64 p, .int .i64 q]] ∧ Sl kD (.slice B l c) ds w' U' ∧ Sl kR (.slice B' l' c') rs w' U' ∧ l ≤ 100000000 ∧ l' ≤ 100000000) := by
  refine x_enter (F := fun _ _ => True) (n := 71) Tryz.func5 rfl rfl (by simp) (.cons (d := 0) rfl (.nil)) (Mono.true_) (trivial) ?_
  intro a hst
  refine wp_seq ?_
  refine wp_region_lit ?_
  refine l_op rfl (r_alloc hst Tz26 rfl ?_)
  clear hst; intro a w g1 hst
  refine l_op rfl (r_assign hst rfl rfl ?_)
  clear hst; intro a hst
  refine l_op rfl (r_alloc hst Tz28 rfl ?_)
  clear hst; intro a w g2 hst
  refine wpList_nil ?_
  refine then_n ?_
  refine wp_seq ?_
  refine wp_region_lit ?_
  refine l_op rfl (r_move hst rfl rfl ?_)
  clear hst; intro a hst
  refine l_op rfl (r_call (xs := [(Operand.tmp 15)]) hst rfl Ten11 (scan_c _ hsm) rfl ?_)
  clear hst; rintro a _ w U ⟨A, n, c, e11, p11, q11, rfl, hn, hT⟩ hst
  have hst := hst.addFact (Toks.mono _ _) hT
  refine l_op rfl (r_move hst rfl rfl ?_)
  clear hst; intro a hst
  refine l_op rfl (r_extract hst rfl rfl rfl ?_)
  clear hst; intro a hst
  refine l_op rfl (r_extract hst rfl rfl rfl ?_)
  clear hst; intro a hst
  refine l_op rfl (r_extract hst rfl rfl rfl ?_)
  clear hst; intro a hst
  refine l_op rfl (r_alloc hst Tz28 rfl ?_)
  clear hst; intro a w g3 hst
  refine l_op rfl (r_assign hst rfl rfl ?_)
  clear hst; intro a hst
  refine l_op rfl (r_assign hst rfl rfl ?_)
  clear hst; intro a hst
  refine l_op rfl (r_store hst rfl rfl rfl Tsz28 rfl (.head (.here (.here (.nil (Nat.zero_le _))))) ?_)
  clear hst; intro w hst
  refine wpList_nil ?_
  refine then_n ?_
  refine wp_seq ?_
  refine wp_seq ?_
  refine wp_region_lit ?_
  refine l_op rfl (r_move hst rfl rfl ?_)
  clear hst; intro a hst
  refine l_op rfl (r_bin hst rfl rfl rfl rfl rfl ?_)
  clear hst; intro a hst
  refine wpList_nil ?_
  refine then_n ?_
  refine x_cond hst rfl (fun hc1 => ?_) (fun hc1 => ?_)
  · try simp at hc1
    try (have hz := hb1; simp [hc1] at hz)
    refine wp_seq ?_
    refine x_drawh (by kernel_rfl) hst (.cons_cons _ (.cons _ (.cons _ (.slnil)))) ?_
    clear hst; intro w hst
    refine h_take (i := 0) hst (.cons_cons _ (.cons _ (.cons _ (.slnil)))) rfl rfl rfl rfl (by kernel_rfl) (by kernel_rfl) (by kernel_rfl) (fun _ _ _ h => h) (fun _ _ _ _ hst => q_build (ps := []) hst Tso26 Tz26 (.nil)) ?_
    clear hst; intro a hst
    refine h_take (i := 1) hst (.cons_cons _ (.cons _ (.cons _ (.slnil)))) rfl rfl rfl rfl (by kernel_rfl) (by kernel_rfl) (by kernel_rfl) (fun _ _ _ h => h) (fun _ _ _ _ hst => q_move hst rfl) ?_
    clear hst; intro a hst
    refine h_take (i := 2) hst (.cons_cons _ (.cons _ (.cons _ (.slnil)))) rfl rfl rfl rfl (by kernel_rfl) (by kernel_rfl) (by kernel_rfl) (fun _ _ _ h => h) (fun _ _ _ _ hst => q_loada hst rfl Ta28 (.head _) (.cons rfl (.cons rfl (.nil))) rfl) ?_
    clear hst; intro a hst
    refine h_one (i := 3) (by kernel_rfl) rfl rfl (r_store hst rfl rfl rfl Tsz26 rfl (.tail (.tail (.head (.here (.here (.nil (Nat.zero_le _))))))) ?_)
    clear hst; intro w hst
    refine ⟨hst.held (.cons_cons _ (.cons _ (.cons _ (.slnil)))), ?_⟩
    refine h_take (i := 4) hst (.cons_cons _ (.cons _ (.cons _ (.slnil)))) rfl rfl rfl rfl (by kernel_rfl) (by kernel_rfl) (by kernel_rfl) (fun _ _ _ h => h) (fun _ _ _ _ hst => q_assign hst rfl) ?_
    clear hst; intro a hst
    refine h_one (i := 5) (by kernel_rfl) rfl rfl (r_store hst rfl rfl rfl Tsz28 rfl (.tail (.head (.here (.here (.nil (Nat.zero_le _)))))) ?_)
    clear hst; intro w hst
    refine ⟨hst.held (.cons_cons _ (.cons _ (.cons _ (.slnil)))), ?_⟩
    refine h_done (by kernel_rfl) ?_
    refine then_n ?_
    refine wp_ret ?_
    refine then_r ?_
    refine x_ret (rs := [.cell 2 26, .tmp 3, .cell 4 28]) hst rfl (.agg rfl Ta26 (.tail _ (.tail _ (.head _))) rfl (.tmp rfl (.agg rfl Ta28 (.tail _ (.head _)) rfl (.nil)))) ?_
    exact ⟨_, _, _, _, _, _, _, _, _, _, _, rfl, Sl.nil _ _ _ _ _, Sl.nil _ _ _ _ _, by decide, by decide⟩
  try simp at hc1
  try (have hz := hb1; simp [hc1] at hz)
  refine wp_skip ?_
  refine then_n ?_
  refine wp_seq ?_
  refine wp_region_lit ?_
  refine l_op rfl (r_move hst rfl rfl ?_)
  clear hst; intro a hst
  refine l_op rfl (r_build (ps := [(0, (Operand.tmp 25))]) hst Tso48 Tz48 (.cons Tf48_0 rfl rfl (.here (.nil (Nat.zero_le _))) (.nil)) rfl ?_)
  clear hst; intro a hst
  refine l_op rfl (r_alloc hst Tz48 rfl ?_)
  clear hst; intro a w g4 hst
  refine l_op rfl (r_store hst rfl rfl rfl Tsz48 rfl (.head (.here (.here (.here (.here (.here (.here (.nil (Nat.zero_le _))))))))) ?_)
  clear hst; intro w hst
  refine wpList_nil ?_
  refine then_n ?_
  refine wp_seq ?_
  refine wp_region_lit ?_
  refine l_op rfl (r_alloc hst Tz26 rfl ?_)
  clear hst; intro a w g5 hst
  refine wpList_nil ?_
  refine then_n ?_
  refine wp_seq ?_
  refine wp_block ?_
  have hst := ((((hst.keep (ds := [2, 3, 4, 8, 9]) (.cons rfl (.cons rfl (.cons rfl (.cons rfl (.cons rfl (.nil))))))).drop (.cons_cons _ (.cons_cons _ (.cons _ (.cons_cons _ (.cons_cons _ (.slnil)))))))).row_nil 60 (sz := 11) (by decide)).row_nil 42 (sz := 5) (by decide)
  have hst := hst.newFact (G := fun w U => ((Cont (.slice none 0 0) [] w U ∧ Flat kD [] [] w U) ∧ (Cont (.slice none 0 0) [] w U ∧ Flat kR [] [] w U)) ∧ Toks A n w U) (Mono.and (Mono.and (Mono.and (Cont.mono _ _) (Flat.mono kD _ _)) (Mono.and (Cont.mono _ _) (Flat.mono kR _ _))) (Toks.mono A n)) ⟨⟨⟨Cont.nil _ _ _, Flat.nil _ _ _⟩, ⟨Cont.nil _ _ _, Flat.nil _ _ _⟩⟩, hst.fact.1⟩
  refine wp_loop_ghost (InvMod _ _ A n c 0 0 g1 g2 g4 g5) (mu n 0 false) ⟨_, 0, _, _, _, _, _, _, _, _, _, _, _, _, _, hst, by omega, by omega, rfl, by omega, rfl, rfl, by omega, rfl, by have := mu_bd n 0 false (by omega); omega, rfl⟩ ?_
  clear hst
  rintro mz a w ⟨U, i, x, y, b, B, B', l, cc, l', cc', xs, xs', ts, ts', hst, hi0, hi1, hl, hcc, hxl, hl', hcc', hxl', hlm, rfl⟩
  refine wp_seq ?_
  refine wp_seq ?_
  refine wp_region_lit ?_
  refine l_op rfl (r_fieldAddr hst rfl Tf48_3 rfl ?_)
  clear hst; intro a hst
  refine l_op rfl (r_loads hst rfl Ts4 (.tail _ (.head _)) rfl rfl ?_)
  clear hst; intro a hst
  refine l_op rfl (r_not hst rfl rfl ?_)
  clear hst; intro a hst
  refine l_op rfl (r_move hst rfl rfl ?_)
  clear hst; intro a hst
  refine hst.split (t := 30) rfl (fun hc2 hst => ?_) (fun hc2 hst => ?_)
  · try simp at hc2
    try (have hz := hb1; simp [hc2] at hz)
    refine l_on hst rfl rfl rfl (r_loada hst rfl Ta48 (.tail _ (.head _)) (.cons rfl (.cons rfl (.cons rfl (.cons rfl (.cons rfl (.cons rfl (.nil))))))) rfl rfl ?_)
    clear hst; intro a hst
    refine l_on hst rfl rfl rfl (r_call (xs := [(Operand.tmp 31)]) hst rfl Ten12 (now_c _ _ _ _ _ (by omega) hn (by first | exact hst.fact | exact hst.fact.2 | exact hst.fact.2.2 | exact hst.fact.2.2.2 | exact hst.fact.2.2.2.2)) rfl ?_)
    clear hst; rintro a _ w U ⟨k1, m1, p1, q1, s1, rfl, hk1⟩ hst
    refine l_on hst rfl rfl rfl (r_fields hst rfl Tfs50_0 rfl rfl ?_)
    clear hst; intro a hst
    refine l_on hst rfl rfl rfl (r_bin hst rfl rfl rfl rfl rfl ?_)
    clear hst; intro a hst
    refine l_op rfl (r_pick hst rfl rfl rfl ?_)
    clear hst; intro a hst
    refine wpList_nil ?_
    refine then_n ?_
    refine x_cond hst rfl (fun hc3 => ?_) (fun hc3 => ?_)
    · try simp at hc3
      try (have hz := hb1; simp [hc3] at hz)
      refine wp_skip ?_
      refine then_n ?_
      refine wp_block ?_
      refine wp_seq ?_
      refine wp_region_lit ?_
      refine l_op rfl (r_loada hst rfl Ta48 (.tail _ (.head _)) (.cons rfl (.cons rfl (.cons rfl (.cons rfl (.cons rfl (.cons rfl (.nil))))))) rfl rfl ?_)
      clear hst; intro a hst
      refine l_op rfl (r_call (xs := [(Operand.tmp 36), (Operand.const (Value.int IntKind.i64 1)), (Operand.const (Value.string { data := #[] }))]) hst rfl Ten13 (take_c _ _ _ _ _ _ _ (by omega) hn (by first | exact hst.fact | exact hst.fact.2 | exact hst.fact.2.2 | exact hst.fact.2.2.2 | exact hst.fact.2.2.2.2) (by omega) (by decide)) rfl ?_)
      clear hst; rintro a _ w U ⟨i1, b1, x1, y1, rfl, ht1⟩ hst
      refine l_op rfl (r_store hst rfl rfl rfl Tsz48 rfl (.tail (.head (.here (.here (.here (.here (.here (.here (.nil (Nat.zero_le _)))))))))) ?_)
      clear hst; intro w hst
      refine wpList_nil ?_
      refine then_n ?_
      refine wp_seq ?_
      refine wp_region_lit ?_
      refine l_op rfl (r_loada hst rfl Ta48 (.tail _ (.head _)) (.cons rfl (.cons rfl (.cons rfl (.cons rfl (.cons rfl (.cons rfl (.nil))))))) rfl rfl ?_)
      clear hst; intro a hst
      refine l_op rfl (r_call (xs := [(Operand.tmp 38), (Operand.const (Value.int IntKind.i64 5)), (Operand.const (Value.string { data := #[100, 97, 116, 97] }))]) hst rfl Ten14 (is_c _ _ _ _ _ _ _ (by omega) hn (by first | exact hst.fact | exact hst.fact.2 | exact hst.fact.2.2 | exact hst.fact.2.2.2 | exact hst.fact.2.2.2.2) (by decide)) rfl ?_)
      clear hst; rintro a _ w U ⟨b1, rfl, hb1⟩ hst
      refine wpList_nil ?_
      refine then_n ?_
      refine x_cond hst rfl (fun hc4 => ?_) (fun hc4 => ?_)
      · try simp at hc4
        try (have hz := hb1; simp [hc4] at hz)
        refine wp_seq ?_
        refine wp_region_lit ?_
        refine l_op rfl (r_loada hst rfl Ta48 (.tail _ (.head _)) (.cons rfl (.cons rfl (.cons rfl (.cons rfl (.cons rfl (.cons rfl (.nil))))))) rfl rfl ?_)
        clear hst; intro a hst
        refine l_op rfl (r_call (xs := [(Operand.tmp 41)]) hst rfl Ten15 (data_c hn _ _ _ _ _ (by omega) (by omega) (by omega) (by omega) (by first | exact hst.fact | exact hst.fact.2 | exact hst.fact.2.2 | exact hst.fact.2.2.2 | exact hst.fact.2.2.2.2)) rfl ?_)
        clear hst; rintro a _ w U ⟨i13, b13, x13, y13, p13, q13, s13, B13, B13', l13, c13, l13', c13', t13, rfl, h13a, h13b, h13c, h13⟩ hst
        have hst := hst.addFact (kD.mono _ _) h13
        refine l_op rfl (r_move hst rfl rfl ?_)
        clear hst; intro a hst
        refine l_op rfl (r_extract hst rfl rfl rfl ?_)
        clear hst; intro a hst
        refine l_op rfl (r_extract hst rfl rfl rfl ?_)
        clear hst; intro a hst
        refine l_op rfl (r_alloc hst Tz48 rfl ?_)
        clear hst; intro a w g6 hst
        refine l_op rfl (r_alloc hst Tz42 rfl ?_)
        clear hst; intro a w g7 hst
        refine l_op rfl (r_store hst rfl rfl rfl Tsz48 rfl (.tail (.head (.here (.here (.here (.here (.here (.here (.nil (Nat.zero_le _)))))))))) ?_)
        clear hst; intro w hst
        refine l_op rfl (r_store hst rfl rfl rfl Tsz42 rfl (.head (.here (.here (.here (.here (.here (.nil (Nat.zero_le _)))))))) ?_)
        clear hst; intro w hst
        refine wpList_nil ?_
        refine then_n ?_
        refine wp_seq ?_
        refine wp_region_lit ?_
        refine l_op rfl (r_loada hst rfl Ta48 (.tail _ (.head _)) (.cons rfl (.cons rfl (.cons rfl (.cons rfl (.cons rfl (.cons rfl (.nil))))))) rfl rfl ?_)
        clear hst; intro a hst
        refine l_op rfl (r_store hst rfl rfl rfl Tsz48 rfl (.tail (.tail (.tail (.head (.here (.here (.here (.here (.here (.here (.nil (Nat.zero_le _)))))))))))) ?_)
        clear hst; intro w hst
        refine wpList_nil ?_
        refine then_n ?_
        refine wp_region_lit ?_
        refine l_op rfl (r_fieldAddr hst rfl Tf26_0 rfl ?_)
        clear hst; intro a hst
        refine l_op rfl (r_loads hst rfl Ts23 (.tail _ (.tail _ (.head _))) rfl rfl ?_)
        clear hst; intro a hst
        refine l_op rfl (r_loada hst rfl Ta42 (.head _) (.cons rfl (.cons rfl (.cons rfl (.cons rfl (.cons rfl (.nil)))))) rfl rfl ?_)
        clear hst; intro a hst
        refine l_op rfl (r_slice1 hst Tu23 Tsz42 Tz42 rfl (by decide) (by decide) rfl rfl rfl rfl ?_)
        clear hst; intro a w g8 hst
        refine l_op rfl (r_append hst rfl rfl Tet23 (.head _) rfl (by decide) rfl hst.fact.2.1.1.1 hxl (by omega) (by omega) rfl ?_)
        clear hst; intro a v w U hext hcont hv hst
        obtain ⟨B2, c2, rfl, hcc2⟩ := hv
        have hcf := cf_snoc (K := kD) hcont hst.fact.2.1.1.2 _ hst.fact.1
        have hst := hst.newFact (Mono.and (Mono.and (Mono.and (Cont.mono _ _) (Flat.mono kD _ _)) (Mono.and (Cont.mono _ _) (Flat.mono kR _ _))) (Toks.mono A n)) ⟨⟨hcf, hst.fact.2.1.2⟩, hst.fact.2.2⟩
        refine l_op rfl (r_fieldAddr hst rfl Tf26_0 rfl ?_)
        clear hst; intro a hst
        refine l_op rfl (r_store hst rfl rfl rfl Tsz23 rfl (.tail (.tail (.tail (.head (.here (.nil (Nat.zero_le _))))))) ?_)
        clear hst; intro w hst
        refine wpList_nil ?_
        refine inb_n ?_
        have hst := ((hst.keep (ds := [2, 3, 4, 8, 9]) (.cons rfl (.cons rfl (.cons rfl (.cons rfl (.cons rfl (.nil))))))).drop (.cons _ (.cons _ (.cons _ (.cons_cons _ (.cons_cons _ (.cons_cons _ (.cons_cons _ (.slnil)))))))))
        have hmm : mu n i13 b13 < mu n i b := mu_lt (by grind) (by omega) (by omega) (by grind)
        exact then_k ⟨_, hmm, _, _, _, _, _, _, _, _, _, _, _, _, _, _, _, hst, by omega, by omega, by first | exact hl | simp [hl], by first | exact hcc | exact hcc2, by first | exact hxl | (simp [hxl]; omega), by first | exact hl' | simp [hl'], by first | exact hcc' | exact hcc2, by first | exact hxl' | (simp [hxl']; omega), by omega, rfl⟩
      try simp at hc4
      try (have hz := hb1; simp [hc4] at hz)
      refine wp_seq ?_
      refine wp_region_lit ?_
      refine l_op rfl (r_loada hst rfl Ta48 (.tail _ (.head _)) (.cons rfl (.cons rfl (.cons rfl (.cons rfl (.cons rfl (.cons rfl (.nil))))))) rfl rfl ?_)
      clear hst; intro a hst
      refine l_op rfl (r_call (xs := [(Operand.tmp 53)]) hst rfl Ten16 (rule_c hn _ _ _ _ _ (by omega) (by omega) (by omega) (by omega) (by first | exact hst.fact | exact hst.fact.2 | exact hst.fact.2.2 | exact hst.fact.2.2.2 | exact hst.fact.2.2.2.2)) rfl ?_)
      clear hst; rintro a _ w U ⟨i14, b14, x14, y14, p14, q14, k15, m15, p15, q15, s14, s15, B14, B14', B15, l14, c14, l14', c14', l15, c15, t14, rfl, h14a, h14b, h14c, h14⟩ hst
      have hst := hst.addFact (kR.mono _ _) h14
      refine l_op rfl (r_move hst rfl rfl ?_)
      clear hst; intro a hst
      refine l_op rfl (r_extract hst rfl rfl rfl ?_)
      clear hst; intro a hst
      refine l_op rfl (r_extract hst rfl rfl rfl ?_)
      clear hst; intro a hst
      refine l_op rfl (r_alloc hst Tz48 rfl ?_)
      clear hst; intro a w g6 hst
      refine l_op rfl (r_alloc hst Tz60 rfl ?_)
      clear hst; intro a w g7 hst
      refine l_op rfl (r_store hst rfl rfl rfl Tsz48 rfl (.tail (.head (.here (.here (.here (.here (.here (.here (.nil (Nat.zero_le _)))))))))) ?_)
      clear hst; intro w hst
      refine l_op rfl (r_store hst rfl rfl rfl Tsz60 rfl (.head (.here (.here (.here (.here (.here (.here (.here (.here (.here (.here (.here (.nil (Nat.zero_le _)))))))))))))) ?_)
      clear hst; intro w hst
      refine wpList_nil ?_
      refine then_n ?_
      refine wp_seq ?_
      refine wp_region_lit ?_
      refine l_op rfl (r_loada hst rfl Ta48 (.tail _ (.head _)) (.cons rfl (.cons rfl (.cons rfl (.cons rfl (.cons rfl (.cons rfl (.nil))))))) rfl rfl ?_)
      clear hst; intro a hst
      refine l_op rfl (r_store hst rfl rfl rfl Tsz48 rfl (.tail (.tail (.tail (.head (.here (.here (.here (.here (.here (.here (.nil (Nat.zero_le _)))))))))))) ?_)
      clear hst; intro w hst
      refine wpList_nil ?_
      refine then_n ?_
      refine wp_region_lit ?_
      refine l_op rfl (r_fieldAddr hst rfl Tf26_1 rfl ?_)
      clear hst; intro a hst
      refine l_op rfl (r_loads hst rfl Ts24 (.tail _ (.tail _ (.head _))) rfl rfl ?_)
      clear hst; intro a hst
      refine l_op rfl (r_loada hst rfl Ta60 (.head _) (.cons rfl (.cons rfl (.cons rfl (.cons rfl (.cons rfl (.cons rfl (.cons rfl (.cons rfl (.cons rfl (.cons rfl (.cons rfl (.nil)))))))))))) rfl rfl ?_)
      clear hst; intro a hst
      refine l_op rfl (r_slice1 hst Tu24 Tsz60 Tz60 rfl (by decide) (by decide) rfl rfl rfl rfl ?_)
      clear hst; intro a w g8 hst
      have hst := hst.row_swap
      refine l_op rfl (r_append hst rfl rfl Tet24 (.head _) rfl (by decide) rfl hst.fact.2.1.2.1 hxl' (by omega) (by omega) rfl ?_)
      clear hst; intro a v w U hext hcont hv hst
      obtain ⟨B2, c2, rfl, hcc2⟩ := hv
      have hcf := cf_snoc (K := kR) hcont hst.fact.2.1.2.2 _ hst.fact.1
      have hst := (hst.newFact (Mono.and (Mono.and (Mono.and (Cont.mono _ _) (Flat.mono kD _ _)) (Mono.and (Cont.mono _ _) (Flat.mono kR _ _))) (Toks.mono A n)) ⟨⟨hst.fact.2.1.1, hcf⟩, hst.fact.2.2⟩).row_swap
      refine l_op rfl (r_fieldAddr hst rfl Tf26_1 rfl ?_)
      clear hst; intro a hst
      refine l_op rfl (r_store hst rfl rfl rfl Tsz24 rfl (.tail (.tail (.tail (.head (.there (.here (.nil (Nat.zero_le _)))))))) ?_)
      clear hst; intro w hst
      refine wpList_nil ?_
      refine inb_n ?_
      have hst := ((hst.keep (ds := [2, 3, 4, 8, 9]) (.cons rfl (.cons rfl (.cons rfl (.cons rfl (.cons rfl (.nil))))))).drop (.cons _ (.cons _ (.cons _ (.cons_cons _ (.cons_cons _ (.cons_cons _ (.cons_cons _ (.slnil)))))))))
      have hmm : mu n i14 b14 < mu n i b := mu_lt (by grind) (by omega) (by omega) (by grind)
      exact then_k ⟨_, hmm, _, _, _, _, _, _, _, _, _, _, _, _, _, _, _, hst, by omega, by omega, by first | exact hl | simp [hl], by first | exact hcc | exact hcc2, by first | exact hxl | (simp [hxl]; omega), by first | exact hl' | simp [hl'], by first | exact hcc' | exact hcc2, by first | exact hxl' | (simp [hxl']; omega), by omega, rfl⟩
    try simp at hc3
    try (have hz := hb1; simp [hc3] at hz)
    refine wp_exit ?_
    refine then_x ?_
    refine then_x ?_
    refine inb_hit ?_
    refine then_n ?_
    refine wp_seq ?_
    refine wp_seq ?_
    refine wp_region_lit ?_
    refine l_op rfl (r_fieldAddr hst rfl Tf48_3 rfl ?_)
    clear hst; intro a hst
    refine l_op rfl (r_loads hst rfl Ts4 (.tail _ (.head _)) rfl rfl ?_)
    clear hst; intro a hst
    refine wpList_nil ?_
    refine then_n ?_
    refine x_cond hst rfl (fun hc5 => ?_) (fun hc5 => ?_)
    · try simp at hc5
      try (have hz := hb1; simp [hc5] at hz)
      refine wp_seq ?_
      refine x_drawh (by kernel_rfl) hst (.cons _ (.cons_cons _ (.cons _ (.cons _ (.slnil))))) ?_
      clear hst; intro w hst
      refine h_take (i := 0) hst (.cons _ (.cons_cons _ (.cons _ (.cons _ (.slnil))))) rfl rfl rfl rfl (by kernel_rfl) (by kernel_rfl) (by kernel_rfl) (fun _ _ _ h => h) (fun _ _ _ _ hst => q_build (ps := []) hst Tso26 Tz26 (.nil)) ?_
      clear hst; intro a hst
      refine h_take (i := 1) hst (.cons _ (.cons_cons _ (.cons _ (.cons _ (.slnil))))) rfl rfl rfl rfl (by kernel_rfl) (by kernel_rfl) (by kernel_rfl) (fun _ _ _ h => h) (fun _ _ _ _ hst => q_fieldAddr hst rfl Tf48_4) ?_
      clear hst; intro a hst
      refine h_take (i := 2) hst (.cons _ (.cons_cons _ (.cons _ (.cons _ (.slnil))))) rfl rfl rfl rfl (by kernel_rfl) (by kernel_rfl) (by kernel_rfl) (fun _ _ _ h => h) (fun _ _ _ _ hst => q_loada hst rfl Ta28 (.head _) (.cons rfl (.cons rfl (.nil))) rfl) ?_
      clear hst; intro a hst
      refine h_one (i := 3) (by kernel_rfl) rfl rfl (r_store hst rfl rfl rfl Tsz26 rfl (.tail (.tail (.tail (.head (.here (.here (.nil (Nat.zero_le _)))))))) ?_)
      clear hst; intro w hst
      refine ⟨hst.held (.cons _ (.cons_cons _ (.cons _ (.cons _ (.slnil))))), ?_⟩
      refine h_take (i := 4) hst (.cons _ (.cons_cons _ (.cons _ (.cons _ (.slnil))))) rfl rfl rfl rfl (by kernel_rfl) (by kernel_rfl) (by kernel_rfl) (fun _ _ _ h => h) (fun _ _ _ _ hst => q_assign hst rfl) ?_
      clear hst; intro a hst
      refine h_one (i := 5) (by kernel_rfl) rfl rfl (r_store hst rfl rfl rfl Tsz28 rfl (.tail (.tail (.head (.here (.here (.nil (Nat.zero_le _))))))) ?_)
      clear hst; intro w hst
      refine ⟨hst.held (.cons _ (.cons_cons _ (.cons _ (.cons _ (.slnil))))), ?_⟩
      refine h_done (by kernel_rfl) ?_
      refine then_n ?_
      refine wp_ret ?_
      refine then_r ?_
      refine x_ret (rs := [.cell 2 26, .tmp 3, .cell 4 28]) hst rfl (.agg rfl Ta26 (.tail _ (.tail _ (.tail _ (.head _)))) rfl (.tmp rfl (.agg rfl Ta28 (.tail _ (.tail _ (.head _))) rfl (.nil)))) ?_
      exact ⟨_, _, _, _, _, _, _, _, _, _, _, rfl, Sl.nil _ _ _ _ _, Sl.nil _ _ _ _ _, by decide, by decide⟩
    try simp at hc5
    try (have hz := hb1; simp [hc5] at hz)
    refine wp_skip ?_
    refine then_n ?_
    refine wp_seq ?_
    refine wp_region_lit ?_
    refine l_op rfl (r_loada hst rfl Ta26 (.head _) (.cons rfl (.cons rfl (.nil))) rfl rfl ?_)
    clear hst; intro a hst
    refine l_op rfl (r_build (ps := []) hst Tso28 Tz28 (.nil) rfl ?_)
    clear hst; intro a hst
    refine l_op rfl (r_store hst rfl rfl rfl Tsz26 rfl (.tail (.tail (.tail (.head (.here (.here (.nil (Nat.zero_le _)))))))) ?_)
    clear hst; intro w hst
    refine l_op rfl (r_assign hst rfl rfl ?_)
    clear hst; intro a hst
    refine l_op rfl (r_store hst rfl rfl rfl Tsz28 rfl (.tail (.tail (.head (.here (.here (.nil (Nat.zero_le _))))))) ?_)
    clear hst; intro w hst
    refine wpList_nil ?_
    refine then_n ?_
    refine wp_ret ?_
    refine x_ret (rs := [.cell 2 26, .tmp 3, .cell 4 28]) hst rfl (.agg rfl Ta26 (.tail _ (.tail _ (.tail _ (.head _)))) rfl (.tmp rfl (.agg rfl Ta28 (.tail _ (.tail _ (.head _))) rfl (.nil)))) ?_
    exact ⟨_, _, _, _, _, _, _, _, _, _, _, rfl, Sl.of_flat hst.fact.1.1.1 hst.fact.1.1.2 hl hcc, Sl.of_flat hst.fact.1.2.1 hst.fact.1.2.2 hl' hcc', by omega, by omega⟩
  try simp at hc2
  try (have hz := hb1; simp [hc2] at hz)
  refine l_off hst rfl rfl rfl (by decide) rfl rfl ?_
  clear hst; intro a hst
  refine l_off hst rfl rfl rfl (by decide) rfl rfl ?_
  clear hst; intro a hst
  refine l_off hst rfl rfl rfl (by decide) rfl rfl ?_
  clear hst; intro a hst
  refine l_off hst rfl rfl rfl (by decide) rfl rfl ?_
  clear hst; intro a hst
  refine l_op rfl (r_pick hst rfl rfl rfl ?_)
  clear hst; intro a hst
  refine wpList_nil ?_
  refine then_n ?_
  refine x_cond_f hst rfl ?_
  refine wp_exit ?_
  refine then_x ?_
  refine then_x ?_
  refine inb_hit ?_
  refine then_n ?_
  refine wp_seq ?_
  refine wp_seq ?_
  refine wp_region_lit ?_
  refine l_op rfl (r_fieldAddr hst rfl Tf48_3 rfl ?_)
  clear hst; intro a hst
  refine l_op rfl (r_loads hst rfl Ts4 (.tail _ (.head _)) rfl rfl ?_)
  clear hst; intro a hst
  refine wpList_nil ?_
  refine then_n ?_
  refine x_cond hst rfl (fun hc6 => ?_) (fun hc6 => ?_)
  · try simp at hc6
    try (have hz := hb1; simp [hc6] at hz)
    refine wp_seq ?_
    refine x_drawh (by kernel_rfl) hst (.cons _ (.cons_cons _ (.cons _ (.cons _ (.slnil))))) ?_
    clear hst; intro w hst
    refine h_take (i := 0) hst (.cons _ (.cons_cons _ (.cons _ (.cons _ (.slnil))))) rfl rfl rfl rfl (by kernel_rfl) (by kernel_rfl) (by kernel_rfl) (fun _ _ _ h => h) (fun _ _ _ _ hst => q_build (ps := []) hst Tso26 Tz26 (.nil)) ?_
    clear hst; intro a hst
    refine h_take (i := 1) hst (.cons _ (.cons_cons _ (.cons _ (.cons _ (.slnil))))) rfl rfl rfl rfl (by kernel_rfl) (by kernel_rfl) (by kernel_rfl) (fun _ _ _ h => h) (fun _ _ _ _ hst => q_fieldAddr hst rfl Tf48_4) ?_
    clear hst; intro a hst
    refine h_take (i := 2) hst (.cons _ (.cons_cons _ (.cons _ (.cons _ (.slnil))))) rfl rfl rfl rfl (by kernel_rfl) (by kernel_rfl) (by kernel_rfl) (fun _ _ _ h => h) (fun _ _ _ _ hst => q_loada hst rfl Ta28 (.head _) (.cons rfl (.cons rfl (.nil))) rfl) ?_
    clear hst; intro a hst
    refine h_one (i := 3) (by kernel_rfl) rfl rfl (r_store hst rfl rfl rfl Tsz26 rfl (.tail (.tail (.tail (.head (.here (.here (.nil (Nat.zero_le _)))))))) ?_)
    clear hst; intro w hst
    refine ⟨hst.held (.cons _ (.cons_cons _ (.cons _ (.cons _ (.slnil))))), ?_⟩
    refine h_take (i := 4) hst (.cons _ (.cons_cons _ (.cons _ (.cons _ (.slnil))))) rfl rfl rfl rfl (by kernel_rfl) (by kernel_rfl) (by kernel_rfl) (fun _ _ _ h => h) (fun _ _ _ _ hst => q_assign hst rfl) ?_
    clear hst; intro a hst
    refine h_one (i := 5) (by kernel_rfl) rfl rfl (r_store hst rfl rfl rfl Tsz28 rfl (.tail (.tail (.head (.here (.here (.nil (Nat.zero_le _))))))) ?_)
    clear hst; intro w hst
    refine ⟨hst.held (.cons _ (.cons_cons _ (.cons _ (.cons _ (.slnil))))), ?_⟩
    refine h_done (by kernel_rfl) ?_
    refine then_n ?_
    refine wp_ret ?_
    refine then_r ?_
    refine x_ret (rs := [.cell 2 26, .tmp 3, .cell 4 28]) hst rfl (.agg rfl Ta26 (.tail _ (.tail _ (.tail _ (.head _)))) rfl (.tmp rfl (.agg rfl Ta28 (.tail _ (.tail _ (.head _))) rfl (.nil)))) ?_
    exact ⟨_, _, _, _, _, _, _, _, _, _, _, rfl, Sl.nil _ _ _ _ _, Sl.nil _ _ _ _ _, by decide, by decide⟩
  try simp at hc6
  try (have hz := hb1; simp [hc6] at hz)
  refine wp_skip ?_
  refine then_n ?_
  refine wp_seq ?_
  refine wp_region_lit ?_
  refine l_op rfl (r_loada hst rfl Ta26 (.head _) (.cons rfl (.cons rfl (.nil))) rfl rfl ?_)
  clear hst; intro a hst
  refine l_op rfl (r_build (ps := []) hst Tso28 Tz28 (.nil) rfl ?_)
  clear hst; intro a hst
  refine l_op rfl (r_store hst rfl rfl rfl Tsz26 rfl (.tail (.tail (.tail (.head (.here (.here (.nil (Nat.zero_le _)))))))) ?_)
  clear hst; intro w hst
  refine l_op rfl (r_assign hst rfl rfl ?_)
  clear hst; intro a hst
  refine l_op rfl (r_store hst rfl rfl rfl Tsz28 rfl (.tail (.tail (.head (.here (.here (.nil (Nat.zero_le _))))))) ?_)
  clear hst; intro w hst
  refine wpList_nil ?_
  refine then_n ?_
  refine wp_ret ?_
  refine x_ret (rs := [.cell 2 26, .tmp 3, .cell 4 28]) hst rfl (.agg rfl Ta26 (.tail _ (.tail _ (.tail _ (.head _)))) rfl (.tmp rfl (.agg rfl Ta28 (.tail _ (.tail _ (.head _))) rfl (.nil)))) ?_
  exact ⟨_, _, _, _, _, _, _, _, _, _, _, rfl, Sl.of_flat hst.fact.1.1.1 hst.fact.1.1.2 hl hcc, Sl.of_flat hst.fact.1.2.1 hst.fact.1.2.2 hl' hcc', by omega, by omega⟩
end Go.Proofs.YtjnjkbmegfkiiaaGreat
