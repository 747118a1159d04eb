/- Functions that compare constructors, declarations, rules, modules. -/
import Derived.Test.YtjnjkbmegfkiiaaGreatR8
namespace Go.Proofs.YtjnjkbmegfkiiaaGreat
open Go.RowKit
set_option maxRecDepth 10000
set_option linter.unusedVariables false
set_option linter.unusedSimpArgs false
attribute [local irreducible] Oper.wp Code.wp wpList wpAny wpOp Calls CallsS
theorem pcon_c {w : World} {U : Mk} {s s' : ByteArray} {A : Option Addr} {l c : Nat} {A' : Option Addr} {l' c' : Nat} {x y x' y' : Int} (ts us : List TyT) (hA : Sl kT (.slice A l c) ts w U) (hB : Sl kT (.slice A' l' c') us w U) :
    CallsS Tryz.prog 20 [.agg #[.string s, .slice A l c, .int .i64 x, .int .i64 y], .agg #[.string s', .slice A' l' c', .int .i64 x', .int .i64 y']] w U (fun v _ _ => ∃ b : Bool, v = .bool b ∧ (b = true ↔ s.toList = s'.toList ∧ ts = us)) := by
  refine x_enter (F := fun w U => Sl kT (.slice A l c) ts w U ∧ Sl kT (.slice A' l' c') us w U) (n := 17) Tryz.func20 rfl rfl (by simp) (.cons (d := 0) rfl (.cons (d := 1) rfl (.nil))) (Mono.and (Sl.mono _ _ _) (Sl.mono _ _ _)) (⟨hA, hB⟩) ?_
  intro a hst
  refine wp_seq ?_
  refine wp_region_lit ?_
  refine l_op rfl (r_box hst rfl rfl rfl ?_)
  clear hst; intro a w g1 hst
  refine l_op rfl (r_box hst rfl rfl rfl ?_)
  clear hst; intro a w g2 hst
  refine l_op rfl (r_assign hst rfl rfl ?_)
  clear hst; intro a hst
  refine wpList_nil ?_
  refine then_n ?_
  refine wp_seq ?_
  refine wp_region_lit ?_
  refine l_op rfl (r_fieldAddr hst rfl Tf65_0 rfl ?_)
  clear hst; intro a hst
  refine l_op rfl (r_loads hst rfl Ts9 (.tail _ (.head _)) rfl rfl ?_)
  clear hst; intro a hst
  refine l_op rfl (r_fieldAddr hst rfl Tf65_0 rfl ?_)
  clear hst; intro a hst
  refine l_op rfl (r_loads hst rfl Ts9 (.head _) rfl rfl ?_)
  clear hst; intro a hst
  refine l_op rfl (r_bin hst rfl rfl rfl rfl rfl ?_)
  clear hst; intro a hst
  refine l_op rfl (r_move hst rfl rfl ?_)
  clear hst; intro a hst
  refine hst.split (t := 10) rfl (fun hc1 hst => ?_) (fun hc1 hst => ?_)
  · try simp only [n1, n2, n3, n4, n5, n6, n7, n8, n9, na, nb] at hc1
    refine l_on hst rfl rfl rfl (r_fieldAddr hst rfl Tf65_1 rfl ?_)
    clear hst; intro a hst
    refine l_on hst rfl rfl rfl (r_loads hst rfl Ts63 (.tail _ (.head _)) rfl rfl ?_)
    clear hst; intro a hst
    refine l_on hst rfl rfl rfl (r_fieldAddr hst rfl Tf65_1 rfl ?_)
    clear hst; intro a hst
    refine l_on hst rfl rfl rfl (r_loads hst rfl Ts63 (.head _) rfl rfl ?_)
    clear hst; intro a hst
    refine l_on hst rfl rfl rfl (r_call (xs := [(Operand.tmp 12), (Operand.tmp 14), (Operand.func 22)]) hst rfl Ten21 (eqfT_c _ _ 22 Ten22 hst.fact.1 hst.fact.2 (fun t u _ _ => same22 t u)) rfl ?_)
    clear hst; rintro a _ w U ⟨be, rfl, hbe⟩ hst
    refine l_op rfl (r_pick hst rfl rfl rfl ?_)
    clear hst; intro a hst
    refine l_op rfl (r_assign hst rfl rfl ?_)
    clear hst; intro a hst
    refine wpList_nil ?_
    refine then_n ?_
    refine wp_ret ?_
    refine x_ret (rs := [.tmp 4]) hst rfl (.tmp rfl (.nil)) ?_
    exact ⟨_, rfl, by grind⟩
  try simp only [n1, n2, n3, n4, n5, n6, n7, n8, n9, na, nb] at hc1
  refine l_off hst rfl rfl rfl (by decide) rfl rfl ?_
  clear hst; intro a hst
  refine l_off hst rfl rfl rfl (by decide) rfl rfl ?_
  clear hst; intro a hst
  refine l_off hst rfl rfl rfl (by decide) rfl rfl ?_
  clear hst; intro a hst
  refine l_off hst rfl rfl rfl (by decide) rfl rfl ?_
  clear hst; intro a hst
  refine l_off hst rfl rfl rfl (by decide) rfl rfl ?_
  clear hst; intro a hst
  refine l_op rfl (r_pick hst rfl rfl rfl ?_)
  clear hst; intro a hst
  refine l_op rfl (r_assign hst rfl rfl ?_)
  clear hst; intro a hst
  refine wpList_nil ?_
  refine then_n ?_
  refine wp_ret ?_
  refine x_ret (rs := [.tmp 4]) hst rfl (.tmp rfl (.nil)) ?_
  exact ⟨_, rfl, by grind⟩

theorem same20 (t u : CoT) : EqF Tryz.prog 20 kC [] t u := by
  intro w U cs ds hc hd
  obtain ⟨s, v, x, y, rfl, hs, h⟩ := hc
  obtain ⟨s', v', x', y', rfl, hs', h'⟩ := hd
  obtain ⟨A, l, c, rfl⟩ := h.slice
  obtain ⟨A', l', c', rfl⟩ := h'.slice
  refine (pcon_c _ _ h h').mono ?_
  rintro v w' U' ⟨b, rfl, hb⟩
  exact ⟨b, rfl, by rw [hb, ← hs, ← hs']; cases t; cases u; simp⟩

theorem pdata_c {w : World} {U : Mk} {s s' : ByteArray} {A : Option Addr} {l c : Nat} {A' : Option Addr} {l' c' : Nat} {B : Option Addr} {j d : Nat} {B' : Option Addr} {j' d' : Nat} {x y x' y' : Int} (ts us : List (List UInt8)) (ps qs : List CoT) (hF : (Sl kS (.slice A l c) ts w U ∧ Sl kS (.slice A' l' c') us w U) ∧ (Sl kC (.slice B j d) ps w U ∧ Sl kC (.slice B' j' d') qs w U)) :
    CallsS Tryz.prog 18 [.agg #[.string s, .slice A l c, .slice B j d, .int .i64 x, .int .i64 y], .agg #[.string s', .slice A' l' c', .slice B' j' d', .int .i64 x', .int .i64 y']] w U (fun v _ _ => ∃ b : Bool, v = .bool b ∧ (b = true ↔ s.toList = s'.toList ∧ ts = us ∧ ps = qs)) := by
  refine x_enter (F := fun w U => (Sl kS (.slice A l c) ts w U ∧ Sl kS (.slice A' l' c') us w U) ∧ (Sl kC (.slice B j d) ps w U ∧ Sl kC (.slice B' j' d') qs w U)) (n := 26) Tryz.func18 rfl rfl (by simp) (.cons (d := 0) rfl (.cons (d := 1) rfl (.nil))) (Mono.and (Mono.and (Sl.mono _ _ _) (Sl.mono _ _ _)) (Mono.and (Sl.mono _ _ _) (Sl.mono _ _ _))) (hF) ?_
  intro a hst
  refine wp_seq ?_
  refine wp_region_lit ?_
  refine l_op rfl (r_box hst rfl rfl rfl ?_)
  clear hst; intro a w g1 hst
  refine l_op rfl (r_box hst rfl rfl rfl ?_)
  clear hst; intro a w g2 hst
  refine l_op rfl (r_assign hst rfl rfl ?_)
  clear hst; intro a hst
  refine wpList_nil ?_
  refine then_n ?_
  refine wp_seq ?_
  refine wp_region_lit ?_
  refine l_op rfl (r_fieldAddr hst rfl Tf42_2 rfl ?_)
  clear hst; intro a hst
  refine l_op rfl (r_loads hst rfl Ts40 (.tail _ (.head _)) rfl rfl ?_)
  clear hst; intro a hst
  refine l_op rfl (r_fieldAddr hst rfl Tf42_2 rfl ?_)
  clear hst; intro a hst
  refine l_op rfl (r_loads hst rfl Ts40 (.head _) rfl rfl ?_)
  clear hst; intro a hst
  refine l_op rfl (r_call (xs := [(Operand.tmp 7), (Operand.tmp 9), (Operand.func 20)]) hst rfl Ten19 (eqfC_c _ _ 20 Ten20 hst.fact.2.1 hst.fact.2.2 (fun t u _ _ => same20 t u)) rfl ?_)
  clear hst; rintro a _ w U ⟨be, rfl, hbe⟩ hst
  refine l_op rfl (r_assign hst rfl rfl ?_)
  clear hst; intro a hst
  refine wpList_nil ?_
  refine then_n ?_
  refine wp_seq ?_
  refine wp_region_lit ?_
  refine l_op rfl (r_move hst rfl rfl ?_)
  clear hst; intro a hst
  refine l_op rfl (r_move hst rfl rfl ?_)
  clear hst; intro a hst
  refine hst.split (t := 12) rfl (fun hc1 hst => ?_) (fun hc1 hst => ?_)
  · try simp only [n1, n2, n3, n4, n5, n6, n7, n8, n9, na, nb] at hc1
    refine l_on hst rfl rfl rfl (r_fieldAddr hst rfl Tf42_0 rfl ?_)
    clear hst; intro a hst
    refine l_on hst rfl rfl rfl (r_loads hst rfl Ts9 (.tail _ (.head _)) rfl rfl ?_)
    clear hst; intro a hst
    refine l_on hst rfl rfl rfl (r_fieldAddr hst rfl Tf42_0 rfl ?_)
    clear hst; intro a hst
    refine l_on hst rfl rfl rfl (r_loads hst rfl Ts9 (.head _) rfl rfl ?_)
    clear hst; intro a hst
    refine l_on hst rfl rfl rfl (r_bin hst rfl rfl rfl rfl rfl ?_)
    clear hst; intro a hst
    refine l_op rfl (r_pick hst rfl rfl rfl ?_)
    clear hst; intro a hst
    refine l_op rfl (r_move hst rfl rfl ?_)
    clear hst; intro a hst
    refine hst.split (t := 19) rfl (fun hc2 hst => ?_) (fun hc2 hst => ?_)
    · try simp only [n1, n2, n3, n4, n5, n6, n7, n8, n9, na, nb] at hc2
      refine l_on hst rfl rfl rfl (r_fieldAddr hst rfl Tf42_1 rfl ?_)
      clear hst; intro a hst
      refine l_on hst rfl rfl rfl (r_loads hst rfl Ts39 (.tail _ (.head _)) rfl rfl ?_)
      clear hst; intro a hst
      refine l_on hst rfl rfl rfl (r_fieldAddr hst rfl Tf42_1 rfl ?_)
      clear hst; intro a hst
      refine l_on hst rfl rfl rfl (r_loads hst rfl Ts39 (.head _) rfl rfl ?_)
      clear hst; intro a hst
      refine l_on hst rfl rfl rfl (r_call (xs := [(Operand.tmp 21), (Operand.tmp 23)]) hst rfl Ten23 (eqstr_c _ _ hst.fact.1.1 hst.fact.1.2) rfl ?_)
      clear hst; rintro a _ w U ⟨bf, rfl, hbf⟩ hst
      refine l_op rfl (r_pick hst rfl rfl rfl ?_)
      clear hst; intro a hst
      refine l_op rfl (r_assign hst rfl rfl ?_)
      clear hst; intro a hst
      refine wpList_nil ?_
      refine then_n ?_
      refine wp_ret ?_
      refine x_ret (rs := [.tmp 4]) hst rfl (.tmp rfl (.nil)) ?_
      exact ⟨_, rfl, by grind⟩
    try simp only [n1, n2, n3, n4, n5, n6, n7, n8, n9, na, nb] at hc2
    refine l_off hst rfl rfl rfl (by decide) rfl rfl ?_
    clear hst; intro a hst
    refine l_off hst rfl rfl rfl (by decide) rfl rfl ?_
    clear hst; intro a hst
    refine l_off hst rfl rfl rfl (by decide) rfl rfl ?_
    clear hst; intro a hst
    refine l_off hst rfl rfl rfl (by decide) rfl rfl ?_
    clear hst; intro a hst
    refine l_off hst rfl rfl rfl (by decide) rfl rfl ?_
    clear hst; intro a hst
    refine l_op rfl (r_pick hst rfl rfl rfl ?_)
    clear hst; intro a hst
    refine l_op rfl (r_assign hst rfl rfl ?_)
    clear hst; intro a hst
    refine wpList_nil ?_
    refine then_n ?_
    refine wp_ret ?_
    refine x_ret (rs := [.tmp 4]) hst rfl (.tmp rfl (.nil)) ?_
    exact ⟨_, rfl, by grind⟩
  try simp only [n1, n2, n3, n4, n5, n6, n7, n8, n9, na, nb] at hc1
  refine l_off hst rfl rfl rfl (by decide) rfl rfl ?_
  clear hst; intro a hst
  refine l_off hst rfl rfl rfl (by decide) rfl rfl ?_
  clear hst; intro a hst
  refine l_off hst rfl rfl rfl (by decide) rfl rfl ?_
  clear hst; intro a hst
  refine l_off hst rfl rfl rfl (by decide) rfl rfl ?_
  clear hst; intro a hst
  refine l_off hst rfl rfl rfl (by decide) rfl rfl ?_
  clear hst; intro a hst
  refine l_op rfl (r_pick hst rfl rfl rfl ?_)
  clear hst; intro a hst
  refine l_op rfl (r_move hst rfl rfl ?_)
  clear hst; intro a hst
  refine l_off hst rfl rfl rfl (by decide) rfl rfl ?_
  clear hst; intro a hst
  refine l_off hst rfl rfl rfl (by decide) rfl rfl ?_
  clear hst; intro a hst
  refine l_off hst rfl rfl rfl (by decide) rfl rfl ?_
  clear hst; intro a hst
  refine l_off hst rfl rfl rfl (by decide) rfl rfl ?_
  clear hst; intro a hst
  refine l_off hst rfl rfl rfl (by decide) rfl rfl ?_
  clear hst; intro a hst
  refine l_op rfl (r_pick hst rfl rfl rfl ?_)
  clear hst; intro a hst
  refine l_op rfl (r_assign hst rfl rfl ?_)
  clear hst; intro a hst
  refine wpList_nil ?_
  refine then_n ?_
  refine wp_ret ?_
  refine x_ret (rs := [.tmp 4]) hst rfl (.tmp rfl (.nil)) ?_
  exact ⟨_, rfl, by grind⟩

theorem same18 {N : Nat} (t u : DaT) : EqF Tryz.prog 18 (kDn N) [] t u := by
  intro w U cs ds hc hd
  obtain ⟨s, v, v2, x, y, rfl, hs, h, h2, _⟩ := hc
  obtain ⟨s', v', v2', x', y', rfl, hs', h', h2', _⟩ := hd
  obtain ⟨A, l, c, rfl⟩ := h.slice
  obtain ⟨A', l', c', rfl⟩ := h'.slice
  obtain ⟨B, j, d, rfl⟩ := h2.slice
  obtain ⟨B', j', d', rfl⟩ := h2'.slice
  refine (pdata_c _ _ _ _ ⟨⟨h, h'⟩, ⟨h2, h2'⟩⟩).mono ?_
  rintro v w' U' ⟨b, rfl, hb⟩
  exact ⟨b, rfl, by rw [hb, ← hs, ← hs']; cases t; cases u; simp⟩

theorem prule_c {w : World} {U : Mk} {s s' : ByteArray} {A : Option Addr} {l c : Nat} {A' : Option Addr} {l' c' : Nat} {B : Option Addr} {j d : Nat} {B' : Option Addr} {j' d' : Nat} {x y x' y' : Int} {k m k' m' p q p' q' : Int} {z z' : ByteArray} {C : Option Addr} {e f : Nat} {C' : Option Addr} {e' f' : Nat} (ts us ps qs : List ExT) (t u : ExT) (hF : ((Sl kE (.slice A l c) ts w U ∧ Sl kE (.slice A' l' c') us w U) ∧ (Sl kE (.slice B j d) ps w U ∧ Sl kE (.slice B' j' d') qs w U)) ∧ (ERep w U [.int .i64 k, .string z, .int .i64 m, .slice C e f, .int .i64 p, .int .i64 q] t ∧ ERep w U [.int .i64 k', .string z', .int .i64 m', .slice C' e' f', .int .i64 p', .int .i64 q'] u)) :
    CallsS Tryz.prog 25 [.agg #[.string s, .slice A l c, .slice B j d, .int .i64 k, .string z, .int .i64 m, .slice C e f, .int .i64 p, .int .i64 q, .int .i64 x, .int .i64 y], .agg #[.string s', .slice A' l' c', .slice B' j' d', .int .i64 k', .string z', .int .i64 m', .slice C' e' f', .int .i64 p', .int .i64 q', .int .i64 x', .int .i64 y']] w U (fun v _ _ => ∃ b : Bool, v = .bool b ∧ (b = true ↔ s.toList = s'.toList ∧ ts = us ∧ ps = qs ∧ t = u)) := by
  refine x_enter (F := fun w U => ((Sl kE (.slice A l c) ts w U ∧ Sl kE (.slice A' l' c') us w U) ∧ (Sl kE (.slice B j d) ps w U ∧ Sl kE (.slice B' j' d') qs w U)) ∧ (ERep w U [.int .i64 k, .string z, .int .i64 m, .slice C e f, .int .i64 p, .int .i64 q] t ∧ ERep w U [.int .i64 k', .string z', .int .i64 m', .slice C' e' f', .int .i64 p', .int .i64 q'] u)) (n := 31) Tryz.func25 rfl rfl (by simp) (.cons (d := 0) rfl (.cons (d := 1) rfl (.nil))) (Mono.and (Mono.and (Mono.and (Sl.mono _ _ _) (Sl.mono _ _ _)) (Mono.and (Sl.mono _ _ _) (Sl.mono _ _ _))) (Mono.and (ERep.mono _ _) (ERep.mono _ _))) (hF) ?_
  intro a hst
  refine wp_seq ?_
  refine wp_region_lit ?_
  refine l_op rfl (r_box hst rfl rfl rfl ?_)
  clear hst; intro a w g1 hst
  refine l_op rfl (r_box hst rfl rfl rfl ?_)
  clear hst; intro a w g2 hst
  refine l_op rfl (r_assign hst rfl rfl ?_)
  clear hst; intro a hst
  refine wpList_nil ?_
  refine then_n ?_
  refine wp_seq ?_
  refine wp_region_lit ?_
  refine l_op rfl (r_fieldAddr hst rfl Tf60_0 rfl ?_)
  clear hst; intro a hst
  refine l_op rfl (r_loads hst rfl Ts9 (.tail _ (.head _)) rfl rfl ?_)
  clear hst; intro a hst
  refine l_op rfl (r_fieldAddr hst rfl Tf60_0 rfl ?_)
  clear hst; intro a hst
  refine l_op rfl (r_loads hst rfl Ts9 (.head _) rfl rfl ?_)
  clear hst; intro a hst
  refine l_op rfl (r_bin hst rfl rfl rfl rfl rfl ?_)
  clear hst; intro a hst
  refine l_op rfl (r_move hst rfl rfl ?_)
  clear hst; intro a hst
  refine hst.split (t := 10) rfl (fun hc1 hst => ?_) (fun hc1 hst => ?_)
  · try simp only [n1, n2, n3, n4, n5, n6, n7, n8, n9, na, nb] at hc1
    refine l_on hst rfl rfl rfl (r_fieldAddr hst rfl Tf60_1 rfl ?_)
    clear hst; intro a hst
    refine l_on hst rfl rfl rfl (r_loads hst rfl Ts56 (.tail _ (.head _)) rfl rfl ?_)
    clear hst; intro a hst
    refine l_on hst rfl rfl rfl (r_fieldAddr hst rfl Tf60_1 rfl ?_)
    clear hst; intro a hst
    refine l_on hst rfl rfl rfl (r_loads hst rfl Ts56 (.head _) rfl rfl ?_)
    clear hst; intro a hst
    refine l_on hst rfl rfl rfl (r_call (xs := [(Operand.tmp 12), (Operand.tmp 14), (Operand.func 45)]) hst rfl Ten44 (eqfE_c _ _ 45 Ten45 hst.fact.1.1.1 hst.fact.1.1.2 (fun t u _ _ => same45 t u)) rfl ?_)
    clear hst; rintro a _ w U ⟨ba, rfl, hba⟩ hst
    refine l_op rfl (r_pick hst rfl rfl rfl ?_)
    clear hst; intro a hst
    refine l_op rfl (r_move hst rfl rfl ?_)
    clear hst; intro a hst
    refine hst.split (t := 17) rfl (fun hc2 hst => ?_) (fun hc2 hst => ?_)
    · try simp only [n1, n2, n3, n4, n5, n6, n7, n8, n9, na, nb] at hc2
      refine l_on hst rfl rfl rfl (r_fieldAddr hst rfl Tf60_2 rfl ?_)
      clear hst; intro a hst
      refine l_on hst rfl rfl rfl (r_loads hst rfl Ts56 (.tail _ (.head _)) rfl rfl ?_)
      clear hst; intro a hst
      refine l_on hst rfl rfl rfl (r_fieldAddr hst rfl Tf60_2 rfl ?_)
      clear hst; intro a hst
      refine l_on hst rfl rfl rfl (r_loads hst rfl Ts56 (.head _) rfl rfl ?_)
      clear hst; intro a hst
      refine l_on hst rfl rfl rfl (r_call (xs := [(Operand.tmp 19), (Operand.tmp 21), (Operand.func 45)]) hst rfl Ten44 (eqfE_c _ _ 45 Ten45 hst.fact.1.2.1 hst.fact.1.2.2 (fun t u _ _ => same45 t u)) rfl ?_)
      clear hst; rintro a _ w U ⟨bb, rfl, hbb⟩ hst
      refine l_op rfl (r_pick hst rfl rfl rfl ?_)
      clear hst; intro a hst
      refine l_op rfl (r_move hst rfl rfl ?_)
      clear hst; intro a hst
      refine hst.split (t := 24) rfl (fun hc3 hst => ?_) (fun hc3 hst => ?_)
      · try simp only [n1, n2, n3, n4, n5, n6, n7, n8, n9, na, nb] at hc3
        refine l_on hst rfl rfl rfl (r_fieldAddr hst rfl Tf60_3 rfl ?_)
        clear hst; intro a hst
        refine l_on hst rfl rfl rfl (r_loada hst rfl Ta58 (.tail _ (.head _)) (.cons rfl (.cons rfl (.cons rfl (.cons rfl (.cons rfl (.cons rfl (.nil))))))) rfl rfl ?_)
        clear hst; intro a hst
        refine l_on hst rfl rfl rfl (r_fieldAddr hst rfl Tf60_3 rfl ?_)
        clear hst; intro a hst
        refine l_on hst rfl rfl rfl (r_loada hst rfl Ta58 (.head _) (.cons rfl (.cons rfl (.cons rfl (.cons rfl (.cons rfl (.cons rfl (.nil))))))) rfl rfl ?_)
        clear hst; intro a hst
        refine l_on hst rfl rfl rfl (r_call (xs := [(Operand.tmp 26), (Operand.tmp 28)]) hst rfl Ten45 (same45 _ _ _ _ _ _ hst.fact.2.1 hst.fact.2.2) rfl ?_)
        clear hst; rintro a _ w U ⟨bc, rfl, hbc⟩ hst
        refine l_op rfl (r_pick hst rfl rfl rfl ?_)
        clear hst; intro a hst
        refine l_op rfl (r_assign hst rfl rfl ?_)
        clear hst; intro a hst
        refine wpList_nil ?_
        refine then_n ?_
        refine wp_ret ?_
        refine x_ret (rs := [.tmp 4]) hst rfl (.tmp rfl (.nil)) ?_
        exact ⟨_, rfl, by grind⟩
      try simp only [n1, n2, n3, n4, n5, n6, n7, n8, n9, na, nb] at hc3
      refine l_off hst rfl rfl rfl (by decide) rfl rfl ?_
      clear hst; intro a hst
      refine l_off hst rfl rfl rfl (by decide) rfl rfl ?_
      clear hst; intro a hst
      refine l_off hst rfl rfl rfl (by decide) rfl rfl ?_
      clear hst; intro a hst
      refine l_off hst rfl rfl rfl (by decide) rfl rfl ?_
      clear hst; intro a hst
      refine l_off hst rfl rfl rfl (by decide) rfl rfl ?_
      clear hst; intro a hst
      refine l_op rfl (r_pick hst rfl rfl rfl ?_)
      clear hst; intro a hst
      refine l_op rfl (r_assign hst rfl rfl ?_)
      clear hst; intro a hst
      refine wpList_nil ?_
      refine then_n ?_
      refine wp_ret ?_
      refine x_ret (rs := [.tmp 4]) hst rfl (.tmp rfl (.nil)) ?_
      exact ⟨_, rfl, by grind⟩
    try simp only [n1, n2, n3, n4, n5, n6, n7, n8, n9, na, nb] at hc2
    refine l_off hst rfl rfl rfl (by decide) rfl rfl ?_
    clear hst; intro a hst
    refine l_off hst rfl rfl rfl (by decide) rfl rfl ?_
    clear hst; intro a hst
    refine l_off hst rfl rfl rfl (by decide) rfl rfl ?_
    clear hst; intro a hst
    refine l_off hst rfl rfl rfl (by decide) rfl rfl ?_
    clear hst; intro a hst
    refine l_off hst rfl rfl rfl (by decide) rfl rfl ?_
    clear hst; intro a hst
    refine l_op rfl (r_pick hst rfl rfl rfl ?_)
    clear hst; intro a hst
    refine l_op rfl (r_move hst rfl rfl ?_)
    clear hst; intro a hst
    refine l_off hst rfl rfl rfl (by decide) rfl rfl ?_
    clear hst; intro a hst
    refine l_off hst rfl rfl rfl (by decide) rfl rfl ?_
    clear hst; intro a hst
    refine l_off hst rfl rfl rfl (by decide) rfl rfl ?_
    clear hst; intro a hst
    refine l_off hst rfl rfl rfl (by decide) rfl rfl ?_
    clear hst; intro a hst
    refine l_off hst rfl rfl rfl (by decide) rfl rfl ?_
    clear hst; intro a hst
    refine l_op rfl (r_pick hst rfl rfl rfl ?_)
    clear hst; intro a hst
    refine l_op rfl (r_assign hst rfl rfl ?_)
    clear hst; intro a hst
    refine wpList_nil ?_
    refine then_n ?_
    refine wp_ret ?_
    refine x_ret (rs := [.tmp 4]) hst rfl (.tmp rfl (.nil)) ?_
    exact ⟨_, rfl, by grind⟩
  try simp only [n1, n2, n3, n4, n5, n6, n7, n8, n9, na, nb] at hc1
  refine l_off hst rfl rfl rfl (by decide) rfl rfl ?_
  clear hst; intro a hst
  refine l_off hst rfl rfl rfl (by decide) rfl rfl ?_
  clear hst; intro a hst
  refine l_off hst rfl rfl rfl (by decide) rfl rfl ?_
  clear hst; intro a hst
  refine l_off hst rfl rfl rfl (by decide) rfl rfl ?_
  clear hst; intro a hst
  refine l_off hst rfl rfl rfl (by decide) rfl rfl ?_
  clear hst; intro a hst
  refine l_op rfl (r_pick hst rfl rfl rfl ?_)
  clear hst; intro a hst
  refine l_op rfl (r_move hst rfl rfl ?_)
  clear hst; intro a hst
  refine l_off hst rfl rfl rfl (by decide) rfl rfl ?_
  clear hst; intro a hst
  refine l_off hst rfl rfl rfl (by decide) rfl rfl ?_
  clear hst; intro a hst
  refine l_off hst rfl rfl rfl (by decide) rfl rfl ?_
  clear hst; intro a hst
  refine l_off hst rfl rfl rfl (by decide) rfl rfl ?_
  clear hst; intro a hst
  refine l_off hst rfl rfl rfl (by decide) rfl rfl ?_
  clear hst; intro a hst
  refine l_op rfl (r_pick hst rfl rfl rfl ?_)
  clear hst; intro a hst
  refine l_op rfl (r_move hst rfl rfl ?_)
  clear hst; intro a hst
  refine l_off hst rfl rfl rfl (by decide) rfl rfl ?_
  clear hst; intro a hst
  refine l_off hst rfl rfl rfl (by decide) rfl rfl ?_
  clear hst; intro a hst
  refine l_off hst rfl rfl rfl (by decide) rfl rfl ?_
  clear hst; intro a hst
  refine l_off hst rfl rfl rfl (by decide) rfl rfl ?_
  clear hst; intro a hst
  refine l_off hst rfl rfl rfl (by decide) rfl rfl ?_
  clear hst; intro a hst
  refine l_op rfl (r_pick hst rfl rfl rfl ?_)
  clear hst; intro a hst
  refine l_op rfl (r_assign hst rfl rfl ?_)
  clear hst; intro a hst
  refine wpList_nil ?_
  refine then_n ?_
  refine wp_ret ?_
  refine x_ret (rs := [.tmp 4]) hst rfl (.tmp rfl (.nil)) ?_
  exact ⟨_, rfl, by grind⟩

theorem same25 {N : Nat} (t u : RuT) : EqF Tryz.prog 25 (kRn N) [] t u := by
  intro w U cs ds hc hd
  obtain ⟨s, v, v2, bs, x, y, rfl, hs, h, h2, hb, _⟩ := hc
  obtain ⟨s', v', v2', bs', x', y', rfl, hs', h', h2', hb', _⟩ := hd
  obtain ⟨A, l, c, rfl⟩ := h.slice
  obtain ⟨A', l', c', rfl⟩ := h'.slice
  obtain ⟨B, j, d, rfl⟩ := h2.slice
  obtain ⟨B', j', d', rfl⟩ := h2'.slice
  obtain ⟨k, z, m, v3, p, q, zs, rfl, ht, h3⟩ := hb.open_
  obtain ⟨k', z', m', v3', p', q', zs', rfl, hu, h3'⟩ := hb'.open_
  obtain ⟨C, e, f, rfl⟩ := h3.slice
  obtain ⟨C', e', f', rfl⟩ := h3'.slice
  refine (prule_c _ _ _ _ t.body u.body ⟨⟨⟨h, h'⟩, ⟨h2, h2'⟩⟩, ⟨hb, hb'⟩⟩).mono ?_
  rintro v w' U' ⟨b, rfl, hb⟩
  exact ⟨b, rfl, by rw [hb, ← hs, ← hs']; cases t; cases u; simp⟩

theorem psamemod_c {w : World} {U : Mk} {N : Nat} {A : Option Addr} {l c : Nat} {A' : Option Addr} {l' c' : Nat} {B : Option Addr} {j d : Nat} {B' : Option Addr} {j' d' : Nat} (ts us : List DaT) (ps qs : List RuT) (hF : (Sl (kDn N) (.slice A l c) ts w U ∧ Sl (kDn N) (.slice A' l' c') us w U) ∧ (Sl (kRn N) (.slice B j d) ps w U ∧ Sl (kRn N) (.slice B' j' d') qs w U)) :
    CallsS Tryz.prog 7 [.agg #[.slice A l c, .slice B j d], .agg #[.slice A' l' c', .slice B' j' d']] w U (fun v _ _ => ∃ b : Bool, v = .bool b ∧ (b = true ↔ ts = us ∧ ps = qs)) := by
  refine x_enter (F := fun w U => (Sl (kDn N) (.slice A l c) ts w U ∧ Sl (kDn N) (.slice A' l' c') us w U) ∧ (Sl (kRn N) (.slice B j d) ps w U ∧ Sl (kRn N) (.slice B' j' d') qs w U)) (n := 19) Tryz.func7 rfl rfl (by simp) (.cons (d := 0) rfl (.cons (d := 1) rfl (.nil))) (Mono.and (Mono.and (Sl.mono _ _ _) (Sl.mono _ _ _)) (Mono.and (Sl.mono _ _ _) (Sl.mono _ _ _))) (hF) ?_
  intro a hst
  refine wp_seq ?_
  refine wp_region_lit ?_
  refine l_op rfl (r_box hst rfl rfl rfl ?_)
  clear hst; intro a w g1 hst
  refine l_op rfl (r_box hst rfl rfl rfl ?_)
  clear hst; intro a w g2 hst
  refine l_op rfl (r_assign hst rfl rfl ?_)
  clear hst; intro a hst
  refine wpList_nil ?_
  refine then_n ?_
  refine wp_seq ?_
  refine wp_region_lit ?_
  refine l_op rfl (r_fieldAddr hst rfl Tf26_0 rfl ?_)
  clear hst; intro a hst
  refine l_op rfl (r_loads hst rfl Ts23 (.tail _ (.head _)) rfl rfl ?_)
  clear hst; intro a hst
  refine l_op rfl (r_fieldAddr hst rfl Tf26_0 rfl ?_)
  clear hst; intro a hst
  refine l_op rfl (r_loads hst rfl Ts23 (.head _) rfl rfl ?_)
  clear hst; intro a hst
  refine l_op rfl (r_call (xs := [(Operand.tmp 7), (Operand.tmp 9), (Operand.func 18)]) hst rfl Ten17 (eqfD_c N _ _ 18 Ten18 hst.fact.1.1 hst.fact.1.2 (fun t u _ _ => same18 t u)) rfl ?_)
  clear hst; rintro a _ w U ⟨be, rfl, hbe⟩ hst
  refine l_op rfl (r_assign hst rfl rfl ?_)
  clear hst; intro a hst
  refine wpList_nil ?_
  refine then_n ?_
  refine wp_seq ?_
  refine wp_region_lit ?_
  refine l_op rfl (r_move hst rfl rfl ?_)
  clear hst; intro a hst
  refine l_op rfl (r_move hst rfl rfl ?_)
  clear hst; intro a hst
  refine hst.split (t := 12) rfl (fun hc1 hst => ?_) (fun hc1 hst => ?_)
  · try simp only [n1, n2, n3, n4, n5, n6, n7, n8, n9, na, nb] at hc1
    refine l_on hst rfl rfl rfl (r_fieldAddr hst rfl Tf26_1 rfl ?_)
    clear hst; intro a hst
    refine l_on hst rfl rfl rfl (r_loads hst rfl Ts24 (.tail _ (.head _)) rfl rfl ?_)
    clear hst; intro a hst
    refine l_on hst rfl rfl rfl (r_fieldAddr hst rfl Tf26_1 rfl ?_)
    clear hst; intro a hst
    refine l_on hst rfl rfl rfl (r_loads hst rfl Ts24 (.head _) rfl rfl ?_)
    clear hst; intro a hst
    refine l_on hst rfl rfl rfl (r_call (xs := [(Operand.tmp 14), (Operand.tmp 16), (Operand.func 25)]) hst rfl Ten24 (eqfR_c N _ _ 25 Ten25 hst.fact.2.1 hst.fact.2.2 (fun t u _ _ => same25 t u)) rfl ?_)
    clear hst; rintro a _ w U ⟨bf, rfl, hbf⟩ hst
    refine l_op rfl (r_pick hst rfl rfl rfl ?_)
    clear hst; intro a hst
    refine l_op rfl (r_assign hst rfl rfl ?_)
    clear hst; intro a hst
    refine wpList_nil ?_
    refine then_n ?_
    refine wp_ret ?_
    refine x_ret (rs := [.tmp 4]) hst rfl (.tmp rfl (.nil)) ?_
    exact ⟨_, rfl, by grind⟩
  try simp only [n1, n2, n3, n4, n5, n6, n7, n8, n9, na, nb] at hc1
  refine l_off hst rfl rfl rfl (by decide) rfl rfl ?_
  clear hst; intro a hst
  refine l_off hst rfl rfl rfl (by decide) rfl rfl ?_
  clear hst; intro a hst
  refine l_off hst rfl rfl rfl (by decide) rfl rfl ?_
  clear hst; intro a hst
  refine l_off hst rfl rfl rfl (by decide) rfl rfl ?_
  clear hst; intro a hst
  refine l_off hst rfl rfl rfl (by decide) rfl rfl ?_
  clear hst; intro a hst
  refine l_op rfl (r_pick hst rfl rfl rfl ?_)
  clear hst; intro a hst
  refine l_op rfl (r_assign hst rfl rfl ?_)
  clear hst; intro a hst
  refine wpList_nil ?_
  refine then_n ?_
  refine wp_ret ?_
  refine x_ret (rs := [.tmp 4]) hst rfl (.tmp rfl (.nil)) ?_
  exact ⟨_, rfl, by grind⟩
end Go.Proofs.YtjnjkbmegfkiiaaGreat
