/- The program's own reader: types, constructors, declarations. -/
import Derived.Test.YtjnjkbmegfkiiaaGreatR14
namespace Go.Proofs.YtjnjkbmegfkiiaaGreat
open Go.RowKit
set_option maxRecDepth 10000
set_option linter.unusedVariables false
set_option linter.unusedSimpArgs false
attribute [local irreducible] Oper.wp Code.wp wpList wpAny wpOp Calls CallsS
theorem atom_m {g : Nat} {F : Fact} {A : Option Addr} {c : Nat} {p : Int} (hF : ∀ w U, F w U → Sl kTk (.slice A 9 c) tok9 w U) (h0 : 0 ≤ p) {t : Int × List UInt8} (ht : tok9[p.toNat]? = some t) (hk : t.1 = 3) :
    MethC Tryz.prog 90 [.pointer (some ⟨g, 0, none⟩)] ⟨g, 84, [.slice A 9 c, .int .i64 p, .int .i64 0, .int .i64 0, .int .i64 0, .int .i64 0]⟩ F (fun v b' => (∃ s : ByteArray, v = .agg #[.int .i64 2, .string s, .int .i64 0, .slice none 0 0]) ∧ b' = ⟨g, 84, [.slice A 9 c, .int .i64 (p + 1), .int .i64 0, .int .i64 0, .int .i64 0, .int .i64 0]⟩) := by
  refine m_enter (n := 61) Tryz.func90 rfl rfl (by simp) (.cons (d := 0) rfl (.nil)) ?_
  intro w0 U0 HX RW w U a hst
  have hmF := hst.mono
  refine wp_seq ?_
  have hp9 := tok9_lt ht
  refine wp_region_lit ?_
  refine l_op rfl (r_alloc hst Tz70 rfl ?_)
  clear hst; intro a w g1 hst
  refine wpList_nil ?_
  refine then_n ?_
  refine wp_seq ?_
  refine wp_region_lit ?_
  refine l_op rfl (r_move hst rfl rfl ?_)
  clear hst; intro a hst
  refine l_op rfl (r_callm0 (H1 := [_]) (xs := [(Operand.tmp 5)]) hst rfl rfl Ten32 (now_m (fun _ _ h => by first | exact hF _ _ h | exact hF _ _ h.2 | exact hF _ _ h.2.2 | exact hF _ _ h.2.2.2) h0 ht) rfl ?_)
  clear hst; rintro a _ _ w U ⟨⟨m4, x4, y4, s4, rfl, hs4⟩, rfl⟩ hst
  simp only [List.cons_append, List.nil_append] at hst
  refine l_op rfl (r_alloc hst Tz50 rfl ?_)
  clear hst; intro a w g2 hst
  refine l_op rfl (r_store hst rfl rfl rfl Tsz50 rfl (.head (.here (.here (.here (.here (.here (.nil (Nat.zero_le _)))))))) ?_)
  clear hst; intro w hst
  refine wpList_nil ?_
  refine then_n ?_
  refine wp_seq ?_
  refine wp_seq ?_
  refine wp_region_lit ?_
  refine l_op rfl (r_fieldAddr hst rfl Tf50_0 rfl ?_)
  clear hst; intro a hst
  refine l_op rfl (r_loads hst rfl Ts3 (.head _) rfl rfl ?_)
  clear hst; intro a hst
  refine wpList_nil ?_
  refine then_n ?_
  refine wp_block ?_
  refine wp_seq ?_
  refine wp_region_lit ?_
  refine l_op rfl (r_bin hst rfl rfl rfl rfl rfl ?_)
  clear hst; intro a hst
  refine l_op rfl (r_assign hst rfl rfl ?_)
  clear hst; intro a hst
  refine wpList_nil ?_
  refine then_n ?_
  refine x_cond hst rfl (fun hc1 => ?_) (fun hc1 => ?_)
  · try simp only [n1, n2, n3, n4, n5, n6, n7, n8, n9, na, nb] at hc1
    refine wp_seq ?_
    omega
  try simp only [n1, n2, n3, n4, n5, n6, n7, n8, n9, na, nb] at hc1
  refine wp_seq ?_
  refine wp_region_lit ?_
  refine l_op rfl (r_bin hst rfl rfl rfl rfl rfl ?_)
  clear hst; intro a hst
  refine l_op rfl (r_assign hst rfl rfl ?_)
  clear hst; intro a hst
  refine wpList_nil ?_
  refine then_n ?_
  refine x_cond hst rfl (fun hc2 => ?_) (fun hc2 => ?_)
  · try simp only [n1, n2, n3, n4, n5, n6, n7, n8, n9, na, nb] at hc2
    refine wp_seq ?_
    refine wp_region_lit ?_
    refine l_op rfl (r_move hst rfl rfl ?_)
    clear hst; intro a hst
    refine l_op rfl (r_nilCheck hst rfl rfl ?_)
    clear hst; intro a hst
    refine l_op rfl (r_fieldAddr hst rfl Tf84_1 rfl ?_)
    clear hst; intro a hst
    refine l_op rfl (r_loads hst rfl Ts3 (.tail _ (.tail _ (.head _))) rfl rfl ?_)
    clear hst; intro a hst
    refine l_op rfl (r_bin hst rfl rfl rfl rfl rfl ?_)
    clear hst; intro a hst
    rw [wrap_in _ (by omega) (by omega)] at hst
    refine l_op rfl (r_nilCheck hst rfl rfl ?_)
    clear hst; intro a hst
    refine l_op rfl (r_fieldAddr hst rfl Tf84_1 rfl ?_)
    clear hst; intro a hst
    refine l_op rfl (r_store hst rfl rfl rfl Tsz3 rfl (.tail (.tail (.head (.there (.here (.nil (Nat.zero_le _))))))) ?_)
    clear hst; intro w hst
    refine wpList_nil ?_
    refine then_n ?_
    refine wp_seq ?_
    refine wp_region_lit ?_
    refine l_op rfl (r_fieldAddr hst rfl Tf50_1 rfl ?_)
    clear hst; intro a hst
    refine l_op rfl (r_loads hst rfl Ts9 (.head _) rfl rfl ?_)
    clear hst; intro a hst
    refine l_op rfl (r_build (ps := [(0, (Operand.const (Value.int IntKind.i64 2))), (1, (Operand.tmp 31))]) hst Tso70 Tz70 (.cons Tf70_0 rfl rfl (.here (.nil (Nat.zero_le _))) (.cons Tf70_1 rfl rfl (.there (.here (.nil (Nat.zero_le _)))) (.nil))) rfl ?_)
    clear hst; intro a hst
    refine l_op rfl (r_store hst rfl rfl rfl Tsz70 rfl (.tail (.head (.here (.here (.here (.here (.nil (Nat.zero_le _)))))))) ?_)
    clear hst; intro w hst
    refine wpList_nil ?_
    refine then_n ?_
    refine wp_ret ?_
    refine inb_r ?_
    refine then_r ?_
    refine m_ret (rs := [.cell 2 70]) hst rfl (.agg rfl Ta70 (.tail _ (.head _)) rfl (.nil)) ⟨_, (.cons _ (.cons _ (.cons_cons _ (List.Sublist.refl _)))), rfl, ?_⟩
    exact ⟨⟨_, rfl⟩, rfl⟩
  try simp only [n1, n2, n3, n4, n5, n6, n7, n8, n9, na, nb] at hc2
  refine wp_skip ?_
  refine inb_n ?_
  refine then_n ?_
  refine wp_seq ?_
  refine wp_seq ?_
  omega

/-- From p on names stand, until q. -/
def Names (p q : Int) : Prop := p ≤ q ∧ (∀ r : Int, p ≤ r → r < q → ∃ t, tok9[r.toNat]? = some t ∧ t.1 = 3) ∧ ∃ t, tok9[q.toNat]? = some t ∧ t.1 ≠ 2 ∧ t.1 ≠ 3 ∧ (t.1 ≠ 6 ∨ t.2 ≠ [40])
def InvAts (w0 : World) (U0 : Mk) (HX : List Blk) (RW : List Row) (F : Fact) (g : Nat) (A : Option Addr) (c : Nat) (p q : Int) (mz : Nat) (a : Act) (w : World) : Prop :=
  ∃ (U : Mk) (r : Int) (B : Option Addr) (l cc : Nat) (xs : List Value), Sta w0 U0 12 [(0, .pointer (some ⟨g, 0, none⟩)), (3, .slice B l cc)] (⟨g, 84, [.slice A 9 c, .int .i64 r, .int .i64 0, .int .i64 0, .int .i64 0, .int .i64 0]⟩ :: HX) (⟨.slice B l cc, 70, 4, l⟩ :: RW) (fun w U => Cont (.slice B l cc) xs w U ∧ F w U) a w U ∧ p ≤ r ∧ r ≤ q ∧ xs.length = l * 4 ∧ (l : Int) = r - p ∧ mz = (q - r).toNat

theorem atoms_m {g : Nat} {F : Fact} {A : Option Addr} {c : Nat} {p : Int} {q : Int} (hF : ∀ w U, F w U → Sl kTk (.slice A 9 c) tok9 w U) (h0 : 0 ≤ p) (hn : Names p q) :
    MethC Tryz.prog 72 [.pointer (some ⟨g, 0, none⟩)] ⟨g, 84, [.slice A 9 c, .int .i64 p, .int .i64 0, .int .i64 0, .int .i64 0, .int .i64 0]⟩ F (fun v b' => (∃ (B : Option Addr) (l cc : Nat), v = .slice B l cc) ∧ b' = ⟨g, 84, [.slice A 9 c, .int .i64 q, .int .i64 0, .int .i64 0, .int .i64 0, .int .i64 0]⟩) := by
  refine m_enter (n := 12) Tryz.func72 rfl rfl (by simp) (.cons (d := 0) rfl (.nil)) ?_
  intro w0 U0 HX RW w U a hst
  have hmF := hst.mono
  refine wp_seq ?_
  obtain ⟨hpq, hin, tq, htq, hq2, hq3, hq6⟩ := hn
  have hq9 := tok9_lt htq
  refine wp_region_lit ?_
  refine l_op rfl (r_assign hst rfl rfl ?_)
  clear hst; intro a hst
  refine wpList_nil ?_
  refine then_n ?_
  refine wp_seq ?_
  refine wp_region_lit ?_
  refine l_op rfl (r_assign hst rfl rfl ?_)
  clear hst; intro a hst
  refine wpList_nil ?_
  refine then_n ?_
  refine wp_seq ?_
  refine wp_block ?_
  have hst := (((hst.keep (ds := [0, 3]) (.cons rfl (.cons rfl (.nil)))).drop (.cons_cons _ ((List.Sublist.refl _))))).row_nil 70 (sz := 4) (by decide)
  have hst := hst.newFact (G := fun w U => Cont (.slice none 0 0) [] w U ∧ F w U) (Mono.and (Cont.mono _ _) hmF) ⟨Cont.nil _ _ _, hst.fact⟩
  refine wp_loop_ghost (InvAts w0 U0 HX RW F g A c p q) (q - p).toNat ⟨_, p, _, 0, _, [], hst, by omega, by omega, rfl, by omega, rfl⟩ ?_
  clear hst
  rintro mz a w ⟨U, r, B, l, cc, xs, hst, hr0, hr1, hxl, hlr, rfl⟩
  refine wp_seq ?_
  refine wp_seq ?_
  obtain ⟨t, ht, h6, h3, h3'⟩ : ∃ t, tok9[r.toNat]? = some t ∧ (t.1 ≠ 6 ∨ t.2 ≠ [40]) ∧ (r < q → t.1 = 3) ∧ (r = q → ¬ (t.1 = 2 ∨ t.1 = 3)) := by
    rcases Int.lt_or_le r q with h | h
    · obtain ⟨t, h1, h2⟩ := hin r hr0 h
      exact ⟨t, h1, .inl (by omega), fun _ => h2, fun h => by omega⟩
    · obtain rfl : r = q := by omega
      exact ⟨tq, htq, hq6, fun h => by omega, fun _ h => h.elim hq2 hq3⟩
  refine wp_region_lit ?_
  refine l_op rfl (r_move hst rfl rfl ?_)
  clear hst; intro a hst
  refine l_op rfl (r_callm0 (H1 := []) (xs := [(Operand.tmp 4)]) hst rfl rfl Ten89 (starts_m (fun _ _ h => by first | exact hF _ _ h | exact hF _ _ h.2 | exact hF _ _ h.2.2 | exact hF _ _ h.2.2.2) (by omega) ht h6) rfl ?_)
  clear hst; rintro a _ _ w U ⟨⟨bs, rfl, hbs⟩, rfl⟩ hst
  simp only [List.cons_append, List.nil_append] at hst
  refine wpList_nil ?_
  refine then_n ?_
  refine x_cond hst rfl (fun hc1 => ?_) (fun hc1 => ?_)
  · try simp only [n1, n2, n3, n4, n5, n6, n7, n8, n9, na, nb] at hc1
    have hrq : r < q := by rcases Int.lt_or_le r q with h | h
                           · exact h
                           · exact absurd (hbs.1 (by assumption)) (h3' (by omega))
    refine wp_skip ?_
    refine then_n ?_
    refine wp_block ?_
    refine wp_region_lit ?_
    refine l_op rfl (r_move hst rfl rfl ?_)
    clear hst; intro a hst
    refine l_op rfl (r_move hst rfl rfl ?_)
    clear hst; intro a hst
    refine l_op rfl (r_callm0 (H1 := []) (xs := [(Operand.tmp 7)]) hst rfl rfl Ten90 (atom_m (fun _ _ h => by first | exact hF _ _ h | exact hF _ _ h.2 | exact hF _ _ h.2.2 | exact hF _ _ h.2.2.2) (by omega) ht (h3 hrq)) rfl ?_)
    clear hst; rintro a _ _ w U ⟨⟨s9, rfl⟩, rfl⟩ hst
    simp only [List.cons_append, List.nil_append] at hst
    refine l_op rfl (r_slice1 hst Tu63 Tsz70 Tz70 rfl (by decide) (by decide) rfl rfl rfl rfl ?_)
    clear hst; intro a w g1 hst
    refine l_op rfl (r_append hst rfl rfl Tet63 (.head _) rfl (by decide) rfl hst.fact.1 hxl (by omega) (by omega) rfl ?_)
    clear hst; intro a v w U hext hcont hv hst
    obtain ⟨B2, c2, rfl, hcc2⟩ := hv
    refine l_op rfl (r_assign hst rfl rfl ?_)
    clear hst; intro a hst
    refine wpList_nil ?_
    refine inb_n ?_
    have hst := ((hst.keep (ds := [0, 3]) (.cons rfl (.cons rfl (.nil)))).drop (.cons _ (.cons_cons _ ((List.Sublist.refl _)))))
    have hst := hst.newFact (Mono.and (Cont.mono _ _) hmF) ⟨hcont, hst.fact.2⟩
    exact then_k ⟨_, by omega, _, r + 1, _, _, _, _, hst, by omega, by omega, by rw [List.length_append, hxl]; simp; omega, by omega, rfl⟩
  try simp only [n1, n2, n3, n4, n5, n6, n7, n8, n9, na, nb] at hc1
  have hrq : r = q := by rcases Int.lt_or_le r q with h | h
                         · exact absurd (hbs.2 (.inr (h3 h))) (by simp_all)
                         · omega
  subst hrq
  refine wp_exit ?_
  refine then_x ?_
  refine then_x ?_
  refine inb_hit ?_
  refine then_n ?_
  refine wp_seq ?_
  refine wp_region_lit ?_
  refine l_op rfl (r_move hst rfl rfl ?_)
  clear hst; intro a hst
  refine l_op rfl (r_assign hst rfl rfl ?_)
  clear hst; intro a hst
  refine wpList_nil ?_
  refine then_n ?_
  refine wp_ret ?_
  have hst := (hst.row_drop (RW' := RW) (.cons _ (List.Sublist.refl _)))
  have hst := hst.setFact hmF (fun h => by first | exact h | exact h.2 | exact h.2.2 | exact h.2.2.2)
  refine m_ret (rs := [.tmp 2]) hst rfl (.tmp rfl (.nil)) ⟨_, (.cons_cons _ (List.Sublist.refl _)), rfl, ?_⟩
  exact ⟨⟨_, _, _, rfl⟩, rfl⟩

theorem con_m {g : Nat} {F : Fact} {A : Option Addr} {c : Nat} {p : Int} {q : Int} (hF : ∀ w U, F w U → Sl kTk (.slice A 9 c) tok9 w U) (h0 : 0 ≤ p) {t : Int × List UInt8} (ht : tok9[p.toNat]? = some t) (hk : t.1 = 3) (hn : Names (p + 1) q) :
    MethC Tryz.prog 52 [.pointer (some ⟨g, 0, none⟩)] ⟨g, 84, [.slice A 9 c, .int .i64 p, .int .i64 0, .int .i64 0, .int .i64 0, .int .i64 0]⟩ F (fun v b' => (∃ (s : ByteArray) (B : Option Addr) (l cc : Nat) (x y : Int), v = .agg #[.string s, .slice B l cc, .int .i64 x, .int .i64 y]) ∧ b' = ⟨g, 84, [.slice A 9 c, .int .i64 q, .int .i64 0, .int .i64 0, .int .i64 0, .int .i64 0]⟩) := by
  refine m_enter (n := 13) Tryz.func52 rfl rfl (by simp) (.cons (d := 0) rfl (.nil)) ?_
  intro w0 U0 HX RW w U a hst
  have hmF := hst.mono
  refine wp_seq ?_
  have hp9 := tok9_lt ht
  refine wp_region_lit ?_
  refine l_op rfl (r_alloc hst Tz65 rfl ?_)
  clear hst; intro a w g1 hst
  refine wpList_nil ?_
  refine then_n ?_
  refine wp_seq ?_
  refine wp_region_lit ?_
  refine l_op rfl (r_move hst rfl rfl ?_)
  clear hst; intro a hst
  refine l_op rfl (r_callm0 (H1 := [_]) (xs := [(Operand.tmp 4)]) hst rfl rfl Ten32 (now_m (fun _ _ h => by first | exact hF _ _ h | exact hF _ _ h.2 | exact hF _ _ h.2.2 | exact hF _ _ h.2.2.2) h0 ht) rfl ?_)
  clear hst; rintro a _ _ w U ⟨⟨m5, x5, y5, s5, rfl, hs5⟩, rfl⟩ hst
  simp only [List.cons_append, List.nil_append] at hst
  refine l_op rfl (r_fielda hst rfl Tfa50_3 (.cons rfl (.cons rfl (.nil))) rfl rfl ?_)
  clear hst; intro a hst
  refine l_op rfl (r_alloc hst Tz28 rfl ?_)
  clear hst; intro a w g2 hst
  refine l_op rfl (r_store hst rfl rfl rfl Tsz28 rfl (.head (.here (.here (.nil (Nat.zero_le _))))) ?_)
  clear hst; intro w hst
  refine wpList_nil ?_
  refine then_n ?_
  refine wp_seq ?_
  refine x_drawf (by kernel_rfl) hst (.cons_cons _ (.cons _ (.cons _ (List.nil_sublist _)))) ?_
  clear hst; intro w hS hst
  refine f_take (i := 0) hS hst (.cons_cons _ (.cons _ (.cons _ (List.nil_sublist _)))) rfl rfl rfl rfl (by kernel_rfl) (by kernel_rfl) (by kernel_rfl) (fun _ _ _ h => h) (fun _ _ _ _ hst => q_move hst rfl) ?_
  clear hst; intro a hst
  refine f_take (i := 2) hS hst (.cons_cons _ (.cons _ (.cons _ (List.nil_sublist _)))) rfl rfl rfl rfl (by kernel_rfl) (by kernel_rfl) (by kernel_rfl) (fun _ _ _ h => h) (fun _ _ _ _ hst => q_move hst rfl) ?_
  clear hst; intro a hst
  refine f_take (i := 4) hS hst (.cons_cons _ (.cons _ (.cons _ (List.nil_sublist _)))) rfl rfl rfl rfl (by kernel_rfl) (by kernel_rfl) (by kernel_rfl) (fun _ _ _ h => h) (fun _ _ _ _ hst => q_loada hst rfl Ta28 (.head _) (.cons rfl (.cons rfl (.nil))) rfl) ?_
  clear hst; intro a hst
  refine f_one (i := 1) (by kernel_rfl) rfl rfl (r_callm0 (H1 := [_, _]) (xs := [(Operand.tmp 7), (Operand.const (Value.int IntKind.i64 3))]) hst rfl rfl Ten51 (name_m (k := 3) (fun _ _ h => by first | exact hF _ _ h | exact hF _ _ h.2 | exact hF _ _ h.2.2 | exact hF _ _ h.2.2.2) h0 ht hk) rfl ?_)
  clear hst; rintro a _ _ w U ⟨⟨s7, rfl, hs7⟩, rfl⟩ hst
  simp only [List.cons_append, List.nil_append] at hst
  refine ⟨hst.kept (.cons_cons _ (.cons _ (.cons _ (List.nil_sublist _)))), ?_⟩
  refine f_one (i := 3) (by kernel_rfl) rfl rfl (r_callm0 (H1 := [_, _]) (xs := [(Operand.tmp 9)]) hst rfl rfl Ten72 (atoms_m (q := q) (fun _ _ h => by first | exact hF _ _ h | exact hF _ _ h.2 | exact hF _ _ h.2.2 | exact hF _ _ h.2.2.2) (by omega) hn) rfl ?_)
  clear hst; rintro a _ _ w U ⟨⟨B7, l7, c7, rfl⟩, rfl⟩ hst
  simp only [List.cons_append, List.nil_append] at hst
  refine ⟨hst.kept (.cons_cons _ (.cons _ (.cons _ (List.nil_sublist _)))), ?_⟩
  refine f_take (i := 5) hS hst (.cons_cons _ (.cons _ (.cons _ (List.nil_sublist _)))) rfl rfl rfl rfl (by kernel_rfl) (by kernel_rfl) (by kernel_rfl) (fun _ _ _ h => h) (fun _ _ _ _ hst => q_build (ps := [(0, (Operand.tmp 8)), (1, (Operand.tmp 10)), (2, (Operand.tmp 11))]) hst Tso65 Tz65 (.cons Tf65_0 rfl rfl (.here (.nil (Nat.zero_le _))) (.cons Tf65_1 rfl rfl (.there (.here (.nil (Nat.zero_le _)))) (.cons Tf65_2 rfl rfl (.there (.there (.here (.here (.nil (Nat.zero_le _)))))) (.nil))))) ?_
  clear hst; intro a hst
  refine f_one (i := 6) (by kernel_rfl) rfl rfl (r_store hst rfl rfl rfl Tsz65 rfl (.tail (.head (.here (.here (.here (.here (.nil (Nat.zero_le _)))))))) ?_)
  clear hst; intro w hst
  refine ⟨hst.kept (.cons_cons _ (.cons _ (.cons _ (List.nil_sublist _)))), ?_⟩
  refine f_done (by kernel_rfl) ?_
  have hst := hS.back hst
  refine then_n ?_
  refine wp_ret ?_
  have hst := hst.setFact hmF (fun h => by first | exact h | exact h.2 | exact h.2.2 | exact h.2.2.2)
  refine m_ret (rs := [.cell 2 65]) hst rfl (.agg rfl Ta65 (.tail _ (.head _)) rfl (.nil)) ⟨_, (.cons _ (.cons _ (.cons_cons _ (List.Sublist.refl _)))), rfl, ?_⟩
  exact ⟨⟨_, _, _, _, _, _, rfl⟩, rfl⟩
end Go.Proofs.YtjnjkbmegfkiiaaGreat
