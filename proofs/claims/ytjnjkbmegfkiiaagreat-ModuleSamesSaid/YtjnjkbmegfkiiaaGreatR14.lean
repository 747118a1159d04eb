/- The program's own reader, on the text that the law wakes with. -/
import Derived.Test.YtjnjkbmegfkiiaaGreatR13
namespace Go.Proofs.YtjnjkbmegfkiiaaGreat
open Go.RowKit
set_option maxRecDepth 10000
set_option linter.unusedVariables false
set_option linter.unusedSimpArgs false
attribute [local irreducible] Oper.wp Code.wp wpList wpAny wpOp Calls CallsS
def tok9 : List (Int × List UInt8) := toks ++ [(0, [])]
theorem tok9_lt {p : Int} {t : Int × List UInt8} (h : tok9[p.toNat]? = some t) : p < 9 := by
  have : p.toNat < 9 := (List.getElem?_eq_some_iff.1 h).1
  omega

theorem ok_m {g : Nat} {F : Fact} {A : Option Addr} {c : Nat} {p : Int}  :
    MethC Tryz.prog 31 [.pointer (some ⟨g, 0, none⟩)] ⟨g, 84, [.slice A 9 c, .int .i64 p, .int .i64 0, .int .i64 0, .int .i64 0, .int .i64 0]⟩ F (fun v b' => v = .bool true ∧ b' = ⟨g, 84, [.slice A 9 c, .int .i64 p, .int .i64 0, .int .i64 0, .int .i64 0, .int .i64 0]⟩) := by
  refine m_enter (n := 9) Tryz.func31 rfl rfl (by simp) (.cons (d := 0) rfl (.nil)) ?_
  intro w0 U0 HX RW w U a hst
  have hmF := hst.mono
  refine wp_seq ?_
  refine wp_region_lit ?_
  refine l_op rfl (r_assign hst rfl rfl ?_)
  clear hst; intro a hst
  refine wpList_nil ?_
  refine then_n ?_
  refine wp_seq ?_
  refine wp_region_lit ?_
  refine l_op rfl (r_move hst rfl rfl ?_)
  clear hst; intro a hst
  refine l_op rfl (r_nilCheck hst rfl rfl ?_)
  clear hst; intro a hst
  refine l_op rfl (r_fieldAddr hst rfl Tf84_3 rfl ?_)
  clear hst; intro a hst
  refine l_op rfl (r_fieldAddr hst rfl Tf36_0 rfl ?_)
  clear hst; intro a hst
  refine l_op rfl (r_loads hst rfl Ts34 (.head _) rfl rfl ?_)
  clear hst; intro a hst
  refine l_op rfl (r_bin hst rfl rfl rfl rfl rfl ?_)
  clear hst; intro a hst
  refine l_op rfl (r_assign hst rfl rfl ?_)
  clear hst; intro a hst
  refine wpList_nil ?_
  refine then_n ?_
  refine wp_ret ?_
  refine m_ret (rs := [.tmp 2]) hst rfl (.tmp rfl (.nil)) ⟨_, (.cons_cons _ (List.Sublist.refl _)), rfl, ?_⟩
  exact ⟨rfl, rfl⟩

theorem now_m {g : Nat} {F : Fact} {A : Option Addr} {c : Nat} {p : Int} (hF : ∀ w U, F w U → Sl kTk (.slice A 9 c) tok9 w U) (h0 : 0 ≤ p) {t : Int × List UInt8} (ht : tok9[p.toNat]? = some t)  :
    MethC Tryz.prog 32 [.pointer (some ⟨g, 0, none⟩)] ⟨g, 84, [.slice A 9 c, .int .i64 p, .int .i64 0, .int .i64 0, .int .i64 0, .int .i64 0]⟩ F (fun v b' => (∃ (m x y : Int) (s : ByteArray), v = .agg #[.int .i64 t.1, .string s, .int .i64 m, .int .i64 x, .int .i64 y] ∧ s.toList = t.2) ∧ b' = ⟨g, 84, [.slice A 9 c, .int .i64 p, .int .i64 0, .int .i64 0, .int .i64 0, .int .i64 0]⟩) := by
  refine m_enter (n := 44) Tryz.func32 rfl rfl (by simp) (.cons (d := 0) rfl (.nil)) ?_
  intro w0 U0 HX RW w U a hst
  have hmF := hst.mono
  refine wp_seq ?_
  refine wp_region_lit ?_
  refine l_op rfl (r_alloc hst Tz50 rfl ?_)
  clear hst; intro a w g1 hst
  refine wpList_nil ?_
  refine then_n ?_
  refine wp_seq ?_
  refine wp_seq ?_
  have hp9 := tok9_lt ht
  obtain ⟨g', o, cs, t', rfl, ht', ⟨m, x, y, s, rfl, hs⟩, hel⟩ := (hF _ _ hst.fact).at_ p.toNat (by omega)
  rw [ht] at ht'
  obtain rfl := Option.some.inj ht'
  have hst := hst.addFact (Eat.mono _ _ _) hel
  refine x_drawf (by kernel_rfl) hst (.cons _ (.cons_cons _ (List.nil_sublist _))) ?_
  clear hst; intro w hS hst
  refine f_take (i := 0) hS hst (.cons _ (.cons_cons _ (List.nil_sublist _))) rfl rfl rfl rfl (by kernel_rfl) (by kernel_rfl) (by kernel_rfl) (fun _ _ _ h => h) (fun _ _ _ _ hst => q_move hst rfl) ?_
  clear hst; intro a hst
  refine f_take (i := 1) hS hst (.cons _ (.cons_cons _ (List.nil_sublist _))) rfl rfl rfl rfl (by kernel_rfl) (by kernel_rfl) (by kernel_rfl) (fun _ _ _ h => h) (fun _ _ _ _ hst => q_nilCheck hst rfl) ?_
  clear hst; intro a hst
  refine f_take (i := 2) hS hst (.cons _ (.cons_cons _ (List.nil_sublist _))) rfl rfl rfl rfl (by kernel_rfl) (by kernel_rfl) (by kernel_rfl) (fun _ _ _ h => h) (fun _ _ _ _ hst => q_fieldAddr hst rfl Tf84_1) ?_
  clear hst; intro a hst
  refine f_take (i := 3) hS hst (.cons _ (.cons_cons _ (List.nil_sublist _))) rfl rfl rfl rfl (by kernel_rfl) (by kernel_rfl) (by kernel_rfl) (fun _ _ _ h => h) (fun _ _ _ _ hst => q_loads hst rfl Ts3 (.head _) rfl) ?_
  clear hst; intro a hst
  refine f_take (i := 4) hS hst (.cons _ (.cons_cons _ (List.nil_sublist _))) rfl rfl rfl rfl (by kernel_rfl) (by kernel_rfl) (by kernel_rfl) (fun _ _ _ h => h) (fun _ _ _ _ hst => q_move hst rfl) ?_
  clear hst; intro a hst
  refine f_take (i := 5) hS hst (.cons _ (.cons_cons _ (List.nil_sublist _))) rfl rfl rfl rfl (by kernel_rfl) (by kernel_rfl) (by kernel_rfl) (fun _ _ _ h => h) (fun _ _ _ _ hst => q_nilCheck hst rfl) ?_
  clear hst; intro a hst
  refine f_take (i := 6) hS hst (.cons _ (.cons_cons _ (List.nil_sublist _))) rfl rfl rfl rfl (by kernel_rfl) (by kernel_rfl) (by kernel_rfl) (fun _ _ _ h => h) (fun _ _ _ _ hst => q_fieldAddr hst rfl Tf84_0) ?_
  clear hst; intro a hst
  refine f_take (i := 7) hS hst (.cons _ (.cons_cons _ (List.nil_sublist _))) rfl rfl rfl rfl (by kernel_rfl) (by kernel_rfl) (by kernel_rfl) (fun _ _ _ h => h) (fun _ _ _ _ hst => q_loads hst rfl Ts44 (.head _) rfl) ?_
  clear hst; intro a hst
  refine f_take (i := 8) hS hst (.cons _ (.cons_cons _ (List.nil_sublist _))) rfl rfl rfl rfl (by kernel_rfl) (by kernel_rfl) (by kernel_rfl) (fun _ _ _ h => h) (fun _ _ _ _ hst => q_lensl hst rfl Tu44) ?_
  clear hst; intro a hst
  refine f_take (i := 9) hS hst (.cons _ (.cons_cons _ (List.nil_sublist _))) rfl rfl rfl rfl (by kernel_rfl) (by kernel_rfl) (by kernel_rfl) (fun _ _ _ h => h) (fun _ _ _ _ hst => q_bin hst rfl rfl rfl rfl) ?_
  clear hst; intro a hst
  refine f_done (by kernel_rfl) ?_
  have hst := hS.back hst
  refine then_n ?_
  refine x_cond hst rfl (fun hc1 => ?_) (fun hc1 => ?_)
  · try simp only [n1, n2, n3, n4, n5, n6, n7, n8, n9, na, nb] at hc1
    refine wp_seq ?_
    refine x_drawf (by kernel_rfl) hst (.cons _ (.cons_cons _ (List.nil_sublist _))) ?_
    clear hst; intro w hS hst
    refine f_take (i := 0) hS hst (.cons _ (.cons_cons _ (List.nil_sublist _))) rfl rfl rfl rfl (by kernel_rfl) (by kernel_rfl) (by kernel_rfl) (fun _ _ _ h => h) (fun _ _ _ _ hst => q_move hst rfl) ?_
    clear hst; intro a hst
    refine f_take (i := 1) hS hst (.cons _ (.cons_cons _ (List.nil_sublist _))) rfl rfl rfl rfl (by kernel_rfl) (by kernel_rfl) (by kernel_rfl) (fun _ _ _ h => h) (fun _ _ _ _ hst => q_nilCheck hst rfl) ?_
    clear hst; intro a hst
    refine f_take (i := 2) hS hst (.cons _ (.cons_cons _ (List.nil_sublist _))) rfl rfl rfl rfl (by kernel_rfl) (by kernel_rfl) (by kernel_rfl) (fun _ _ _ h => h) (fun _ _ _ _ hst => q_fieldAddr hst rfl Tf84_0) ?_
    clear hst; intro a hst
    refine f_take (i := 3) hS hst (.cons _ (.cons_cons _ (List.nil_sublist _))) rfl rfl rfl rfl (by kernel_rfl) (by kernel_rfl) (by kernel_rfl) (fun _ _ _ h => h) (fun _ _ _ _ hst => q_loads hst rfl Ts44 (.head _) rfl) ?_
    clear hst; intro a hst
    refine f_take (i := 4) hS hst (.cons _ (.cons_cons _ (List.nil_sublist _))) rfl rfl rfl rfl (by kernel_rfl) (by kernel_rfl) (by kernel_rfl) (fun _ _ _ h => h) (fun _ _ _ _ hst => q_move hst rfl) ?_
    clear hst; intro a hst
    refine f_take (i := 5) hS hst (.cons _ (.cons_cons _ (List.nil_sublist _))) rfl rfl rfl rfl (by kernel_rfl) (by kernel_rfl) (by kernel_rfl) (fun _ _ _ h => h) (fun _ _ _ _ hst => q_nilCheck hst rfl) ?_
    clear hst; intro a hst
    refine f_take (i := 6) hS hst (.cons _ (.cons_cons _ (List.nil_sublist _))) rfl rfl rfl rfl (by kernel_rfl) (by kernel_rfl) (by kernel_rfl) (fun _ _ _ h => h) (fun _ _ _ _ hst => q_fieldAddr hst rfl Tf84_1) ?_
    clear hst; intro a hst
    refine f_take (i := 7) hS hst (.cons _ (.cons_cons _ (List.nil_sublist _))) rfl rfl rfl rfl (by kernel_rfl) (by kernel_rfl) (by kernel_rfl) (fun _ _ _ h => h) (fun _ _ _ _ hst => q_loads hst rfl Ts3 (.head _) rfl) ?_
    clear hst; intro a hst
    refine f_take (i := 8) hS hst (.cons _ (.cons_cons _ (List.nil_sublist _))) rfl rfl rfl rfl (by kernel_rfl) (by kernel_rfl) (by kernel_rfl) (fun _ _ _ h => h) (fun _ _ _ _ hst => q_indexAddr hst rfl rfl Tu44 Tsz50 (h0) (by omega)) ?_
    clear hst; intro a hst
    refine f_take (i := 9) hS hst (.cons _ (.cons_cons _ (List.nil_sublist _))) rfl rfl rfl rfl (by kernel_rfl) (by kernel_rfl) (by kernel_rfl) (fun _ _ _ h => h) (fun _ _ _ _ hst => q_eatw hst rfl Ta50 (hst.fact.1) (rfl : _ = 5)) ?_
    clear hst; intro a hst
    refine f_one (i := 10) (by kernel_rfl) rfl rfl (r_store hst rfl rfl rfl Tsz50 rfl (.head (.here (.here (.here (.here (.here (.nil (Nat.zero_le _)))))))) ?_)
    clear hst; intro w hst
    refine ⟨hst.kept (.cons _ (.cons_cons _ (List.nil_sublist _))), ?_⟩
    refine f_done (by kernel_rfl) ?_
    have hst := hS.back hst
    refine then_n ?_
    refine wp_ret ?_
    refine then_r ?_
    have hst := hst.setFact hmF (fun h => by first | exact h | exact h.2 | exact h.2.2 | exact h.2.2.2)
    refine m_ret (rs := [.cell 2 50]) hst rfl (.agg rfl Ta50 (.head _) rfl (.nil)) ⟨_, (.cons _ (.cons_cons _ (List.Sublist.refl _))), rfl, ?_⟩
    exact ⟨⟨_, _, _, _, rfl, hs⟩, rfl⟩
  try simp only [n1, n2, n3, n4, n5, n6, n7, n8, n9, na, nb] at hc1
  refine wp_skip ?_
  refine then_n ?_
  refine wp_seq ?_
  omega

theorem is_m {g : Nat} {F : Fact} {A : Option Addr} {c : Nat} {p : Int} (k : Int) (s : ByteArray) (hF : ∀ w U, F w U → Sl kTk (.slice A 9 c) tok9 w U) (h0 : 0 ≤ p) {t : Int × List UInt8} (ht : tok9[p.toNat]? = some t)  :
    MethC Tryz.prog 34 [.pointer (some ⟨g, 0, none⟩), .int .i64 k, .string s] ⟨g, 84, [.slice A 9 c, .int .i64 p, .int .i64 0, .int .i64 0, .int .i64 0, .int .i64 0]⟩ F (fun v b' => (∃ b : Bool, v = .bool b ∧ (b = true ↔ t.1 = k ∧ t.2 = s.toList)) ∧ b' = ⟨g, 84, [.slice A 9 c, .int .i64 p, .int .i64 0, .int .i64 0, .int .i64 0, .int .i64 0]⟩) := by
  refine m_enter (n := 24) Tryz.func34 rfl rfl (by simp) (.cons (d := 0) rfl (.cons (d := 1) rfl (.cons (d := 2) rfl (.nil)))) ?_
  intro w0 U0 HX RW w U a hst
  have hmF := hst.mono
  refine wp_seq ?_
  refine wp_region_lit ?_
  refine l_op rfl (r_assign hst rfl rfl ?_)
  clear hst; intro a hst
  refine wpList_nil ?_
  refine then_n ?_
  refine wp_seq ?_
  refine wp_region_lit ?_
  refine l_op rfl (r_move hst rfl rfl ?_)
  clear hst; intro a hst
  refine l_op rfl (r_callm0 (H1 := []) (xs := [(Operand.tmp 8)]) hst rfl rfl Ten32 (now_m (fun _ _ h => by first | exact hF _ _ h | exact hF _ _ h.2 | exact hF _ _ h.2.2 | exact hF _ _ h.2.2.2) h0 ht) rfl ?_)
  clear hst; rintro a _ _ w U ⟨⟨m1, x1, y1, s1, rfl, hs1⟩, rfl⟩ hst
  simp only [List.cons_append, List.nil_append] at hst
  refine l_op rfl (r_alloc hst Tz50 rfl ?_)
  clear hst; intro a w g1 hst
  refine l_op rfl (r_store hst rfl rfl rfl Tsz50 rfl (.head (.here (.here (.here (.here (.here (.nil (Nat.zero_le _)))))))) ?_)
  clear hst; intro w hst
  refine wpList_nil ?_
  refine then_n ?_
  refine wp_seq ?_
  refine wp_region_lit ?_
  refine l_op rfl (r_move hst rfl rfl ?_)
  clear hst; intro a hst
  refine l_op rfl (r_callm0 (H1 := [_]) (xs := [(Operand.tmp 10)]) hst rfl rfl Ten31 (ok_m) rfl ?_)
  clear hst; rintro a _ _ w U ⟨rfl, rfl⟩ hst
  simp only [List.cons_append, List.nil_append] at hst
  refine l_op rfl (r_move hst rfl rfl ?_)
  clear hst; intro a hst
  refine l_on hst rfl rfl rfl (r_fieldAddr hst rfl Tf50_0 rfl ?_)
  clear hst; intro a hst
  refine l_on hst rfl rfl rfl (r_loads hst rfl Ts3 (.head _) rfl rfl ?_)
  clear hst; intro a hst
  refine l_on hst rfl rfl rfl (r_move hst rfl rfl ?_)
  clear hst; intro a hst
  refine l_on hst rfl rfl rfl (r_bin hst rfl rfl rfl rfl rfl ?_)
  clear hst; intro a hst
  refine l_op rfl (r_pick hst rfl rfl rfl ?_)
  clear hst; intro a hst
  refine l_op rfl (r_move hst rfl rfl ?_)
  clear hst; intro a hst
  refine hst.split (t := 18) rfl (fun hc1 hst => ?_) (fun hc1 hst => ?_)
  · try simp only [n1, n2, n3, n4, n5, n6, n7, n8, n9, na, nb] at hc1
    refine l_on hst rfl rfl rfl (r_fieldAddr hst rfl Tf50_1 rfl ?_)
    clear hst; intro a hst
    refine l_on hst rfl rfl rfl (r_loads hst rfl Ts9 (.head _) rfl rfl ?_)
    clear hst; intro a hst
    refine l_on hst rfl rfl rfl (r_move hst rfl rfl ?_)
    clear hst; intro a hst
    refine l_on hst rfl rfl rfl (r_bin hst rfl rfl rfl rfl rfl ?_)
    clear hst; intro a hst
    refine l_op rfl (r_pick hst rfl rfl rfl ?_)
    clear hst; intro a hst
    refine l_op rfl (r_assign hst rfl rfl ?_)
    clear hst; intro a hst
    refine wpList_nil ?_
    refine then_n ?_
    refine wp_ret ?_
    refine m_ret (rs := [.tmp 6]) hst rfl (.tmp rfl (.nil)) ⟨_, (.cons _ (.cons_cons _ (List.Sublist.refl _))), rfl, ?_⟩
    exact ⟨⟨_, rfl, by grind⟩, rfl⟩
  try simp only [n1, n2, n3, n4, n5, n6, n7, n8, n9, na, nb] at hc1
  refine l_off hst rfl rfl rfl (by decide) rfl rfl ?_
  clear hst; intro a hst
  refine l_off hst rfl rfl rfl (by decide) rfl rfl ?_
  clear hst; intro a hst
  refine l_off hst rfl rfl rfl (by decide) rfl rfl ?_
  clear hst; intro a hst
  refine l_off hst rfl rfl rfl (by decide) rfl rfl ?_
  clear hst; intro a hst
  refine l_op rfl (r_pick hst rfl rfl rfl ?_)
  clear hst; intro a hst
  refine l_op rfl (r_assign hst rfl rfl ?_)
  clear hst; intro a hst
  refine wpList_nil ?_
  refine then_n ?_
  refine wp_ret ?_
  refine m_ret (rs := [.tmp 6]) hst rfl (.tmp rfl (.nil)) ⟨_, (.cons _ (.cons_cons _ (List.Sublist.refl _))), rfl, ?_⟩
  exact ⟨⟨_, rfl, by grind⟩, rfl⟩

theorem take_m {g : Nat} {F : Fact} {A : Option Addr} {c : Nat} {p : Int} (k : Int) (s : ByteArray) (hF : ∀ w U, F w U → Sl kTk (.slice A 9 c) tok9 w U) (h0 : 0 ≤ p) {t : Int × List UInt8} (ht : tok9[p.toNat]? = some t) (hk : t.1 = k) (hs : t.2 = s.toList) :
    MethC Tryz.prog 33 [.pointer (some ⟨g, 0, none⟩), .int .i64 k, .string s] ⟨g, 84, [.slice A 9 c, .int .i64 p, .int .i64 0, .int .i64 0, .int .i64 0, .int .i64 0]⟩ F (fun v b' => v = .tuple #[] ∧ b' = ⟨g, 84, [.slice A 9 c, .int .i64 (p + 1), .int .i64 0, .int .i64 0, .int .i64 0, .int .i64 0]⟩) := by
  refine m_enter (n := 20) Tryz.func33 rfl rfl (by simp) (.cons (d := 0) rfl (.cons (d := 1) rfl (.cons (d := 2) rfl (.nil)))) ?_
  intro w0 U0 HX RW w U a hst
  have hmF := hst.mono
  refine wp_seq ?_
  refine wp_seq ?_
  have hp9 := tok9_lt ht
  refine wp_region_lit ?_
  refine l_op rfl (r_move hst rfl rfl ?_)
  clear hst; intro a hst
  refine l_op rfl (r_move hst rfl rfl ?_)
  clear hst; intro a hst
  refine l_op rfl (r_move hst rfl rfl ?_)
  clear hst; intro a hst
  refine l_op rfl (r_callm0 (H1 := []) (xs := [(Operand.tmp 6), (Operand.tmp 7), (Operand.tmp 8)]) hst rfl rfl Ten34 (is_m _ _ (fun _ _ h => by first | exact hF _ _ h | exact hF _ _ h.2 | exact hF _ _ h.2.2 | exact hF _ _ h.2.2.2) h0 ht) rfl ?_)
  clear hst; rintro a _ _ w U ⟨⟨bi, rfl, hbi⟩, rfl⟩ hst
  have hbt : bi = true := hbi.2 ⟨hk, hs⟩
  subst hbt
  simp only [List.cons_append, List.nil_append] at hst
  refine l_op rfl (r_not hst rfl rfl ?_)
  clear hst; intro a hst
  refine wpList_nil ?_
  refine then_n ?_
  refine x_cond_f hst rfl ?_
  refine wp_skip ?_
  refine then_n ?_
  refine wp_region_lit ?_
  refine l_op rfl (r_move hst rfl rfl ?_)
  clear hst; intro a hst
  refine l_op rfl (r_nilCheck hst rfl rfl ?_)
  clear hst; intro a hst
  refine l_op rfl (r_fieldAddr hst rfl Tf84_1 rfl ?_)
  clear hst; intro a hst
  refine l_op rfl (r_loads hst rfl Ts3 (.head _) rfl rfl ?_)
  clear hst; intro a hst
  refine l_op rfl (r_bin hst rfl rfl rfl rfl rfl ?_)
  clear hst; intro a hst
  rw [wrap_in _ (by omega) (by omega)] at hst
  refine l_op rfl (r_nilCheck hst rfl rfl ?_)
  clear hst; intro a hst
  refine l_op rfl (r_fieldAddr hst rfl Tf84_1 rfl ?_)
  clear hst; intro a hst
  refine l_op rfl (r_store hst rfl rfl rfl Tsz3 rfl (.head (.there (.here (.nil (Nat.zero_le _))))) ?_)
  clear hst; intro w hst
  refine wpList_nil ?_
  refine m_end (rs := []) hst rfl (.nil) ⟨_, (.cons_cons _ (List.Sublist.refl _)), rfl, ?_⟩
  exact ⟨rfl, rfl⟩

theorem name_m {g : Nat} {F : Fact} {A : Option Addr} {c : Nat} {p : Int} (k : Int) (hF : ∀ w U, F w U → Sl kTk (.slice A 9 c) tok9 w U) (h0 : 0 ≤ p) {t : Int × List UInt8} (ht : tok9[p.toNat]? = some t) (hk : t.1 = k) :
    MethC Tryz.prog 51 [.pointer (some ⟨g, 0, none⟩), .int .i64 k] ⟨g, 84, [.slice A 9 c, .int .i64 p, .int .i64 0, .int .i64 0, .int .i64 0, .int .i64 0]⟩ F (fun v b' => (∃ s : ByteArray, v = .string s ∧ s.toList = t.2) ∧ b' = ⟨g, 84, [.slice A 9 c, .int .i64 (p + 1), .int .i64 0, .int .i64 0, .int .i64 0, .int .i64 0]⟩) := by
  refine m_enter (n := 23) Tryz.func51 rfl rfl (by simp) (.cons (d := 0) rfl (.cons (d := 1) rfl (.nil))) ?_
  intro w0 U0 HX RW w U a hst
  have hmF := hst.mono
  refine wp_seq ?_
  have hp9 := tok9_lt ht
  refine wp_region_lit ?_
  refine l_op rfl (r_assign hst rfl rfl ?_)
  clear hst; intro a hst
  refine wpList_nil ?_
  refine then_n ?_
  refine wp_seq ?_
  refine wp_region_lit ?_
  refine l_op rfl (r_move hst rfl rfl ?_)
  clear hst; intro a hst
  refine l_op rfl (r_callm0 (H1 := []) (xs := [(Operand.tmp 6)]) hst rfl rfl Ten32 (now_m (fun _ _ h => by first | exact hF _ _ h | exact hF _ _ h.2 | exact hF _ _ h.2.2 | exact hF _ _ h.2.2.2) h0 ht) rfl ?_)
  clear hst; rintro a _ _ w U ⟨⟨m2, x2, y2, s2, rfl, hs2⟩, rfl⟩ hst
  simp only [List.cons_append, List.nil_append] at hst
  refine l_op rfl (r_alloc hst Tz50 rfl ?_)
  clear hst; intro a w g1 hst
  refine l_op rfl (r_store hst rfl rfl rfl Tsz50 rfl (.head (.here (.here (.here (.here (.here (.nil (Nat.zero_le _)))))))) ?_)
  clear hst; intro w hst
  refine wpList_nil ?_
  refine then_n ?_
  refine wp_seq ?_
  refine wp_seq ?_
  refine wp_region_lit ?_
  refine l_op rfl (r_fieldAddr hst rfl Tf50_0 rfl ?_)
  clear hst; intro a hst
  refine l_op rfl (r_loads hst rfl Ts3 (.head _) rfl rfl ?_)
  clear hst; intro a hst
  refine l_op rfl (r_move hst rfl rfl ?_)
  clear hst; intro a hst
  refine l_op rfl (r_bin hst rfl rfl rfl rfl rfl ?_)
  clear hst; intro a hst
  refine wpList_nil ?_
  refine then_n ?_
  refine x_cond hst rfl (fun hc1 => ?_) (fun hc1 => ?_)
  · try simp only [n1, n2, n3, n4, n5, n6, n7, n8, n9, na, nb] at hc1
    refine wp_seq ?_
    omega
  try simp only [n1, n2, n3, n4, n5, n6, n7, n8, n9, na, nb] at hc1
  refine wp_skip ?_
  refine then_n ?_
  refine wp_seq ?_
  refine wp_region_lit ?_
  refine l_op rfl (r_move hst rfl rfl ?_)
  clear hst; intro a hst
  refine l_op rfl (r_nilCheck hst rfl rfl ?_)
  clear hst; intro a hst
  refine l_op rfl (r_fieldAddr hst rfl Tf84_1 rfl ?_)
  clear hst; intro a hst
  refine l_op rfl (r_loads hst rfl Ts3 (.tail _ (.head _)) rfl rfl ?_)
  clear hst; intro a hst
  refine l_op rfl (r_bin hst rfl rfl rfl rfl rfl ?_)
  clear hst; intro a hst
  rw [wrap_in _ (by omega) (by omega)] at hst
  refine l_op rfl (r_nilCheck hst rfl rfl ?_)
  clear hst; intro a hst
  refine l_op rfl (r_fieldAddr hst rfl Tf84_1 rfl ?_)
  clear hst; intro a hst
  refine l_op rfl (r_store hst rfl rfl rfl Tsz3 rfl (.tail (.head (.there (.here (.nil (Nat.zero_le _)))))) ?_)
  clear hst; intro w hst
  refine wpList_nil ?_
  refine then_n ?_
  refine wp_seq ?_
  refine wp_region_lit ?_
  refine l_op rfl (r_fieldAddr hst rfl Tf50_1 rfl ?_)
  clear hst; intro a hst
  refine l_op rfl (r_loads hst rfl Ts9 (.head _) rfl rfl ?_)
  clear hst; intro a hst
  refine l_op rfl (r_assign hst rfl rfl ?_)
  clear hst; intro a hst
  refine wpList_nil ?_
  refine then_n ?_
  refine wp_ret ?_
  refine m_ret (rs := [.tmp 4]) hst rfl (.tmp rfl (.nil)) ⟨_, (.cons _ (.cons_cons _ (List.Sublist.refl _))), rfl, ?_⟩
  exact ⟨⟨_, rfl, by assumption⟩, rfl⟩

theorem starts_m {g : Nat} {F : Fact} {A : Option Addr} {c : Nat} {p : Int} (hF : ∀ w U, F w U → Sl kTk (.slice A 9 c) tok9 w U) (h0 : 0 ≤ p) {t : Int × List UInt8} (ht : tok9[p.toNat]? = some t) (hk : t.1 ≠ 6 ∨ t.2 ≠ [40]) :
    MethC Tryz.prog 89 [.pointer (some ⟨g, 0, none⟩)] ⟨g, 84, [.slice A 9 c, .int .i64 p, .int .i64 0, .int .i64 0, .int .i64 0, .int .i64 0]⟩ F (fun v b' => (∃ b : Bool, v = .bool b ∧ (b = true ↔ t.1 = 2 ∨ t.1 = 3)) ∧ b' = ⟨g, 84, [.slice A 9 c, .int .i64 p, .int .i64 0, .int .i64 0, .int .i64 0, .int .i64 0]⟩) := by
  refine m_enter (n := 22) Tryz.func89 rfl rfl (by simp) (.cons (d := 0) rfl (.nil)) ?_
  intro w0 U0 HX RW w U a hst
  have hmF := hst.mono
  refine wp_seq ?_
  refine wp_region_lit ?_
  refine l_op rfl (r_assign hst rfl rfl ?_)
  clear hst; intro a hst
  refine wpList_nil ?_
  refine then_n ?_
  refine wp_seq ?_
  refine wp_region_lit ?_
  refine l_op rfl (r_move hst rfl rfl ?_)
  clear hst; intro a hst
  refine l_op rfl (r_callm0 (H1 := []) (xs := [(Operand.tmp 4)]) hst rfl rfl Ten32 (now_m (fun _ _ h => by first | exact hF _ _ h | exact hF _ _ h.2 | exact hF _ _ h.2.2 | exact hF _ _ h.2.2.2) h0 ht) rfl ?_)
  clear hst; rintro a _ _ w U ⟨⟨m3, x3, y3, s3, rfl, hs3⟩, rfl⟩ hst
  simp only [List.cons_append, List.nil_append] at hst
  refine l_op rfl (r_alloc hst Tz50 rfl ?_)
  clear hst; intro a w g1 hst
  refine l_op rfl (r_store hst rfl rfl rfl Tsz50 rfl (.head (.here (.here (.here (.here (.here (.nil (Nat.zero_le _)))))))) ?_)
  clear hst; intro w hst
  refine wpList_nil ?_
  refine then_n ?_
  refine wp_seq ?_
  refine wp_region_lit ?_
  refine l_op rfl (r_move hst rfl rfl ?_)
  clear hst; intro a hst
  refine l_op rfl (r_callm0 (H1 := [_]) (xs := [(Operand.tmp 6)]) hst rfl rfl Ten31 (ok_m) rfl ?_)
  clear hst; rintro a _ _ w U ⟨rfl, rfl⟩ hst
  simp only [List.cons_append, List.nil_append] at hst
  refine l_op rfl (r_move hst rfl rfl ?_)
  clear hst; intro a hst
  refine l_on hst rfl rfl rfl (r_fieldAddr hst rfl Tf50_0 rfl ?_)
  clear hst; intro a hst
  refine l_on hst rfl rfl rfl (r_loads hst rfl Ts3 (.head _) rfl rfl ?_)
  clear hst; intro a hst
  refine l_on hst rfl rfl rfl (r_bin hst rfl rfl rfl rfl rfl ?_)
  clear hst; intro a hst
  refine l_on hst rfl rfl rfl (r_move hst rfl rfl ?_)
  clear hst; intro a hst
  refine hst.split (t := 12) rfl (fun hc1 hst => ?_) (fun hc1 hst => ?_)
  · try simp only [n1, n2, n3, n4, n5, n6, n7, n8, n9, na, nb] at hc1
    refine l_off hst rfl rfl rfl (by decide) rfl rfl ?_
    clear hst; intro a hst
    refine l_off hst rfl rfl rfl (by decide) rfl rfl ?_
    clear hst; intro a hst
    refine l_off hst rfl rfl rfl (by decide) rfl rfl ?_
    clear hst; intro a hst
    refine l_on hst rfl rfl rfl (r_pick hst rfl rfl rfl ?_)
    clear hst; intro a hst
    refine l_on hst rfl rfl rfl (r_move hst rfl rfl ?_)
    clear hst; intro a hst
    refine l_off hst rfl rfl rfl (by decide) rfl rfl ?_
    clear hst; intro a hst
    refine l_off hst rfl rfl rfl (by decide) rfl rfl ?_
    clear hst; intro a hst
    refine l_on hst rfl rfl rfl (r_pick hst rfl rfl rfl ?_)
    clear hst; intro a hst
    refine l_op rfl (r_pick hst rfl rfl rfl ?_)
    clear hst; intro a hst
    refine l_op rfl (r_assign hst rfl rfl ?_)
    clear hst; intro a hst
    refine wpList_nil ?_
    refine then_n ?_
    refine wp_ret ?_
    refine m_ret (rs := [.tmp 2]) hst rfl (.tmp rfl (.nil)) ⟨_, (.cons _ (.cons_cons _ (List.Sublist.refl _))), rfl, ?_⟩
    have h40 := ByteArray.toList_mk [40]
    exact ⟨⟨_, rfl, by grind⟩, rfl⟩
  try simp only [n1, n2, n3, n4, n5, n6, n7, n8, n9, na, nb] at hc1
  refine l_on hst rfl rfl rfl (r_fieldAddr hst rfl Tf50_0 rfl ?_)
  clear hst; intro a hst
  refine l_on hst rfl rfl rfl (r_loads hst rfl Ts3 (.head _) rfl rfl ?_)
  clear hst; intro a hst
  refine l_on hst rfl rfl rfl (r_bin hst rfl rfl rfl rfl rfl ?_)
  clear hst; intro a hst
  refine l_on hst rfl rfl rfl (r_pick hst rfl rfl rfl ?_)
  clear hst; intro a hst
  refine l_on hst rfl rfl rfl (r_move hst rfl rfl ?_)
  clear hst; intro a hst
  refine hst.split (t := 17) rfl (fun hc2 hst => ?_) (fun hc2 hst => ?_)
  · try simp only [n1, n2, n3, n4, n5, n6, n7, n8, n9, na, nb] at hc2
    refine l_off hst rfl rfl rfl (by decide) rfl rfl ?_
    clear hst; intro a hst
    refine l_off hst rfl rfl rfl (by decide) rfl rfl ?_
    clear hst; intro a hst
    refine l_on hst rfl rfl rfl (r_pick hst rfl rfl rfl ?_)
    clear hst; intro a hst
    refine l_op rfl (r_pick hst rfl rfl rfl ?_)
    clear hst; intro a hst
    refine l_op rfl (r_assign hst rfl rfl ?_)
    clear hst; intro a hst
    refine wpList_nil ?_
    refine then_n ?_
    refine wp_ret ?_
    refine m_ret (rs := [.tmp 2]) hst rfl (.tmp rfl (.nil)) ⟨_, (.cons _ (.cons_cons _ (List.Sublist.refl _))), rfl, ?_⟩
    have h40 := ByteArray.toList_mk [40]
    exact ⟨⟨_, rfl, by grind⟩, rfl⟩
  try simp only [n1, n2, n3, n4, n5, n6, n7, n8, n9, na, nb] at hc2
  refine l_on hst rfl rfl rfl (r_move hst rfl rfl ?_)
  clear hst; intro a hst
  refine l_on hst rfl rfl rfl (r_callm0 (H1 := [_]) (xs := [(Operand.tmp 18), (Operand.const (Value.int IntKind.i64 6)), (Operand.const (Value.string { data := #[40] }))]) hst rfl rfl Ten34 (is_m _ _ (fun _ _ h => by first | exact hF _ _ h | exact hF _ _ h.2 | exact hF _ _ h.2.2 | exact hF _ _ h.2.2.2) h0 ht) rfl ?_)
  clear hst; rintro a _ _ w U ⟨⟨bi, rfl, hbi⟩, rfl⟩ hst
  simp only [List.cons_append, List.nil_append] at hst
  refine l_on hst rfl rfl rfl (r_pick hst rfl rfl rfl ?_)
  clear hst; intro a hst
  refine l_op rfl (r_pick hst rfl rfl rfl ?_)
  clear hst; intro a hst
  refine l_op rfl (r_assign hst rfl rfl ?_)
  clear hst; intro a hst
  refine wpList_nil ?_
  refine then_n ?_
  refine wp_ret ?_
  refine m_ret (rs := [.tmp 2]) hst rfl (.tmp rfl (.nil)) ⟨_, (.cons _ (.cons_cons _ (List.Sublist.refl _))), rfl, ?_⟩
  have h40 := ByteArray.toList_mk [40]
  exact ⟨⟨_, rfl, by grind⟩, rfl⟩
end Go.Proofs.YtjnjkbmegfkiiaaGreat
