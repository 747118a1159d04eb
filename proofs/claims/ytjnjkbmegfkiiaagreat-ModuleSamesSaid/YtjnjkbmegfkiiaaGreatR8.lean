/- Functions that compare trees. -/
import Derived.Test.YtjnjkbmegfkiiaaGreatR7
namespace Go.Proofs.YtjnjkbmegfkiiaaGreat
open Go.RowKit
set_option maxRecDepth 10000
set_option linter.unusedVariables false
set_option linter.unusedSimpArgs false
attribute [local irreducible] Oper.wp Code.wp wpList wpAny wpOp Calls CallsS
def Invsametype (w0 : World) (U0 : Mk) (k m k' m' : Int) (s s' : ByteArray) (A : Option Addr) (l c : Nat) (ts : List TyT) (A' : Option Addr) (l' c' : Nat) (us : List TyT) (g1 g2 : Nat) (mz : Nat) (a : Act) (w : World) : Prop :=
  ∃ (U : Mk) (i : Int), Sta w0 U0 53 [(2, .pointer (some ⟨g1, 0, none⟩)), (3, .pointer (some ⟨g2, 0, none⟩)), (36, .int .i64 (l : Int)), (37, .int .i64 i)] [⟨g2, 70, [.int .i64 k', .string s', .int .i64 m', .slice A' l' c']⟩, ⟨g1, 70, [.int .i64 k, .string s, .int .i64 m, .slice A l c]⟩] [] (fun w U => Sl kT (.slice A l c) ts w U ∧ Sl kT (.slice A' l' c') us w U) a w U ∧ 0 ≤ i ∧ i ≤ l ∧ ts.take i.toNat = us.take i.toNat ∧ mz = ((l : Int) - i).toNat

theorem sametype_c {w : World} {U : Mk} {k m k' m' : Int} {s s' : ByteArray} {A : Option Addr} {l c : Nat} {A' : Option Addr} {l' c' : Nat} (ts us : List TyT) (hA : Sl kT (.slice A l c) ts w U) (hB : Sl kT (.slice A' l' c') us w U) (heq : ∀ t u, t ∈ ts → u ∈ us → EqF Tryz.prog 46 kT [] t u) :
    CallsS Tryz.prog 46 [.agg #[.int .i64 k, .string s, .int .i64 m, .slice A l c], .agg #[.int .i64 k', .string s', .int .i64 m', .slice A' l' c']] w U (fun v _ _ => ∃ b : Bool, v = .bool b ∧ (b = true ↔ k = k' ∧ s.toList = s'.toList ∧ m = m' ∧ ts = us)) := by
  refine x_enter (F := fun w U => Sl kT (.slice A l c) ts w U ∧ Sl kT (.slice A' l' c') us w U) (n := 53) Tryz.func46 rfl rfl (by simp) (.cons (d := 0) rfl (.cons (d := 1) rfl (.nil))) (Mono.and (Sl.mono _ _ _) (Sl.mono _ _ _)) (⟨hA, hB⟩) ?_
  intro a hst
  refine wp_seq ?_
  refine wp_region_lit ?_
  refine l_op rfl (r_box hst rfl rfl rfl ?_)
  clear hst; intro a w g1 hst
  refine l_op rfl (r_box hst rfl rfl rfl ?_)
  clear hst; intro a w g2 hst
  refine l_op rfl (r_assign hst rfl rfl ?_)
  clear hst; intro a hst
  refine wpList_nil ?_
  refine then_n ?_
  refine wp_seq ?_
  refine wp_seq ?_
  have hl1 := hst.fact.1.len
  have hl2 := hst.fact.2.len
  refine wp_region_lit ?_
  refine l_op rfl (r_fieldAddr hst rfl Tf70_0 rfl ?_)
  clear hst; intro a hst
  refine l_op rfl (r_loads hst rfl Ts3 (.tail _ (.head _)) rfl rfl ?_)
  clear hst; intro a hst
  refine l_op rfl (r_fieldAddr hst rfl Tf70_0 rfl ?_)
  clear hst; intro a hst
  refine l_op rfl (r_loads hst rfl Ts3 (.head _) rfl rfl ?_)
  clear hst; intro a hst
  refine l_op rfl (r_bin hst rfl rfl rfl rfl rfl ?_)
  clear hst; intro a hst
  refine l_op rfl (r_move hst rfl rfl ?_)
  clear hst; intro a hst
  refine hst.split (t := 11) rfl (fun hc1 hst => ?_) (fun hc1 hst => ?_)
  · try simp only [n1, n2, n3, n4, n5, n6, n7, n8, n9, na, nb] at hc1
    refine l_off hst rfl rfl rfl (by decide) rfl rfl ?_
    clear hst; intro a hst
    refine l_off hst rfl rfl rfl (by decide) rfl rfl ?_
    clear hst; intro a hst
    refine l_off hst rfl rfl rfl (by decide) rfl rfl ?_
    clear hst; intro a hst
    refine l_off hst rfl rfl rfl (by decide) rfl rfl ?_
    clear hst; intro a hst
    refine l_off hst rfl rfl rfl (by decide) rfl rfl ?_
    clear hst; intro a hst
    refine l_op rfl (r_pick hst rfl rfl rfl ?_)
    clear hst; intro a hst
    refine l_op rfl (r_move hst rfl rfl ?_)
    clear hst; intro a hst
    refine l_off hst rfl rfl rfl (by decide) rfl rfl ?_
    clear hst; intro a hst
    refine l_off hst rfl rfl rfl (by decide) rfl rfl ?_
    clear hst; intro a hst
    refine l_off hst rfl rfl rfl (by decide) rfl rfl ?_
    clear hst; intro a hst
    refine l_off hst rfl rfl rfl (by decide) rfl rfl ?_
    clear hst; intro a hst
    refine l_off hst rfl rfl rfl (by decide) rfl rfl ?_
    clear hst; intro a hst
    refine l_op rfl (r_pick hst rfl rfl rfl ?_)
    clear hst; intro a hst
    refine l_op rfl (r_move hst rfl rfl ?_)
    clear hst; intro a hst
    refine l_off hst rfl rfl rfl (by decide) rfl rfl ?_
    clear hst; intro a hst
    refine l_off hst rfl rfl rfl (by decide) rfl rfl ?_
    clear hst; intro a hst
    refine l_off hst rfl rfl rfl (by decide) rfl rfl ?_
    clear hst; intro a hst
    refine l_off hst rfl rfl rfl (by decide) rfl rfl ?_
    clear hst; intro a hst
    refine l_off hst rfl rfl rfl (by decide) rfl rfl ?_
    clear hst; intro a hst
    refine l_off hst rfl rfl rfl (by decide) rfl rfl ?_
    clear hst; intro a hst
    refine l_off hst rfl rfl rfl (by decide) rfl rfl ?_
    clear hst; intro a hst
    refine l_op rfl (r_pick hst rfl rfl rfl ?_)
    clear hst; intro a hst
    refine wpList_nil ?_
    refine then_n ?_
    refine x_cond_t hst rfl ?_
    refine wp_seq ?_
    refine wp_region_lit ?_
    refine l_op rfl (r_assign hst rfl rfl ?_)
    clear hst; intro a hst
    refine wpList_nil ?_
    refine then_n ?_
    refine wp_ret ?_
    refine then_r ?_
    refine x_ret (rs := [.tmp 4]) hst rfl (.tmp rfl (.nil)) ?_
    exact ⟨_, rfl, ⟨fun h => absurd h (by decide), fun h => by first | exact absurd h.1 (by assumption) | exact absurd h.2.1 (by assumption) | exact absurd h.2.2.1 (by assumption) | exact absurd h.2.2.2 (eq_len hl1.1 hl2.1 (by omega))⟩⟩
  try simp only [n1, n2, n3, n4, n5, n6, n7, n8, n9, na, nb] at hc1
  refine l_on hst rfl rfl rfl (r_fieldAddr hst rfl Tf70_1 rfl ?_)
  clear hst; intro a hst
  refine l_on hst rfl rfl rfl (r_loads hst rfl Ts9 (.tail _ (.head _)) rfl rfl ?_)
  clear hst; intro a hst
  refine l_on hst rfl rfl rfl (r_fieldAddr hst rfl Tf70_1 rfl ?_)
  clear hst; intro a hst
  refine l_on hst rfl rfl rfl (r_loads hst rfl Ts9 (.head _) rfl rfl ?_)
  clear hst; intro a hst
  refine l_on hst rfl rfl rfl (r_bin hst rfl rfl rfl rfl rfl ?_)
  clear hst; intro a hst
  refine l_op rfl (r_pick hst rfl rfl rfl ?_)
  clear hst; intro a hst
  refine l_op rfl (r_move hst rfl rfl ?_)
  clear hst; intro a hst
  refine hst.split (t := 18) rfl (fun hc2 hst => ?_) (fun hc2 hst => ?_)
  · try simp only [n1, n2, n3, n4, n5, n6, n7, n8, n9, na, nb] at hc2
    refine l_off hst rfl rfl rfl (by decide) rfl rfl ?_
    clear hst; intro a hst
    refine l_off hst rfl rfl rfl (by decide) rfl rfl ?_
    clear hst; intro a hst
    refine l_off hst rfl rfl rfl (by decide) rfl rfl ?_
    clear hst; intro a hst
    refine l_off hst rfl rfl rfl (by decide) rfl rfl ?_
    clear hst; intro a hst
    refine l_off hst rfl rfl rfl (by decide) rfl rfl ?_
    clear hst; intro a hst
    refine l_op rfl (r_pick hst rfl rfl rfl ?_)
    clear hst; intro a hst
    refine l_op rfl (r_move hst rfl rfl ?_)
    clear hst; intro a hst
    refine l_off hst rfl rfl rfl (by decide) rfl rfl ?_
    clear hst; intro a hst
    refine l_off hst rfl rfl rfl (by decide) rfl rfl ?_
    clear hst; intro a hst
    refine l_off hst rfl rfl rfl (by decide) rfl rfl ?_
    clear hst; intro a hst
    refine l_off hst rfl rfl rfl (by decide) rfl rfl ?_
    clear hst; intro a hst
    refine l_off hst rfl rfl rfl (by decide) rfl rfl ?_
    clear hst; intro a hst
    refine l_off hst rfl rfl rfl (by decide) rfl rfl ?_
    clear hst; intro a hst
    refine l_off hst rfl rfl rfl (by decide) rfl rfl ?_
    clear hst; intro a hst
    refine l_op rfl (r_pick hst rfl rfl rfl ?_)
    clear hst; intro a hst
    refine wpList_nil ?_
    refine then_n ?_
    refine x_cond_t hst rfl ?_
    refine wp_seq ?_
    refine wp_region_lit ?_
    refine l_op rfl (r_assign hst rfl rfl ?_)
    clear hst; intro a hst
    refine wpList_nil ?_
    refine then_n ?_
    refine wp_ret ?_
    refine then_r ?_
    refine x_ret (rs := [.tmp 4]) hst rfl (.tmp rfl (.nil)) ?_
    exact ⟨_, rfl, ⟨fun h => absurd h (by decide), fun h => by first | exact absurd h.1 (by assumption) | exact absurd h.2.1 (by assumption) | exact absurd h.2.2.1 (by assumption) | exact absurd h.2.2.2 (eq_len hl1.1 hl2.1 (by omega))⟩⟩
  try simp only [n1, n2, n3, n4, n5, n6, n7, n8, n9, na, nb] at hc2
  refine l_on hst rfl rfl rfl (r_fieldAddr hst rfl Tf70_2 rfl ?_)
  clear hst; intro a hst
  refine l_on hst rfl rfl rfl (r_loads hst rfl Ts3 (.tail _ (.head _)) rfl rfl ?_)
  clear hst; intro a hst
  refine l_on hst rfl rfl rfl (r_fieldAddr hst rfl Tf70_2 rfl ?_)
  clear hst; intro a hst
  refine l_on hst rfl rfl rfl (r_loads hst rfl Ts3 (.head _) rfl rfl ?_)
  clear hst; intro a hst
  refine l_on hst rfl rfl rfl (r_bin hst rfl rfl rfl rfl rfl ?_)
  clear hst; intro a hst
  refine l_op rfl (r_pick hst rfl rfl rfl ?_)
  clear hst; intro a hst
  refine l_op rfl (r_move hst rfl rfl ?_)
  clear hst; intro a hst
  refine hst.split (t := 25) rfl (fun hc3 hst => ?_) (fun hc3 hst => ?_)
  · try simp only [n1, n2, n3, n4, n5, n6, n7, n8, n9, na, nb] at hc3
    refine l_off hst rfl rfl rfl (by decide) rfl rfl ?_
    clear hst; intro a hst
    refine l_off hst rfl rfl rfl (by decide) rfl rfl ?_
    clear hst; intro a hst
    refine l_off hst rfl rfl rfl (by decide) rfl rfl ?_
    clear hst; intro a hst
    refine l_off hst rfl rfl rfl (by decide) rfl rfl ?_
    clear hst; intro a hst
    refine l_off hst rfl rfl rfl (by decide) rfl rfl ?_
    clear hst; intro a hst
    refine l_off hst rfl rfl rfl (by decide) rfl rfl ?_
    clear hst; intro a hst
    refine l_off hst rfl rfl rfl (by decide) rfl rfl ?_
    clear hst; intro a hst
    refine l_op rfl (r_pick hst rfl rfl rfl ?_)
    clear hst; intro a hst
    refine wpList_nil ?_
    refine then_n ?_
    refine x_cond_t hst rfl ?_
    refine wp_seq ?_
    refine wp_region_lit ?_
    refine l_op rfl (r_assign hst rfl rfl ?_)
    clear hst; intro a hst
    refine wpList_nil ?_
    refine then_n ?_
    refine wp_ret ?_
    refine then_r ?_
    refine x_ret (rs := [.tmp 4]) hst rfl (.tmp rfl (.nil)) ?_
    exact ⟨_, rfl, ⟨fun h => absurd h (by decide), fun h => by first | exact absurd h.1 (by assumption) | exact absurd h.2.1 (by assumption) | exact absurd h.2.2.1 (by assumption) | exact absurd h.2.2.2 (eq_len hl1.1 hl2.1 (by omega))⟩⟩
  try simp only [n1, n2, n3, n4, n5, n6, n7, n8, n9, na, nb] at hc3
  refine l_on hst rfl rfl rfl (r_fieldAddr hst rfl Tf70_3 rfl ?_)
  clear hst; intro a hst
  refine l_on hst rfl rfl rfl (r_loads hst rfl Ts63 (.tail _ (.head _)) rfl rfl ?_)
  clear hst; intro a hst
  refine l_on hst rfl rfl rfl (r_lensl hst rfl Tu63 rfl ?_)
  clear hst; intro a hst
  refine l_on hst rfl rfl rfl (r_fieldAddr hst rfl Tf70_3 rfl ?_)
  clear hst; intro a hst
  refine l_on hst rfl rfl rfl (r_loads hst rfl Ts63 (.head _) rfl rfl ?_)
  clear hst; intro a hst
  refine l_on hst rfl rfl rfl (r_lensl hst rfl Tu63 rfl ?_)
  clear hst; intro a hst
  refine l_on hst rfl rfl rfl (r_bin hst rfl rfl rfl rfl rfl ?_)
  clear hst; intro a hst
  refine l_op rfl (r_pick hst rfl rfl rfl ?_)
  clear hst; intro a hst
  refine wpList_nil ?_
  refine then_n ?_
  refine x_cond hst rfl (fun hc4 => ?_) (fun hc4 => ?_)
  · try simp only [n1, n2, n3, n4, n5, n6, n7, n8, n9, na, nb] at hc4
    refine wp_seq ?_
    refine wp_region_lit ?_
    refine l_op rfl (r_assign hst rfl rfl ?_)
    clear hst; intro a hst
    refine wpList_nil ?_
    refine then_n ?_
    refine wp_ret ?_
    refine then_r ?_
    refine x_ret (rs := [.tmp 4]) hst rfl (.tmp rfl (.nil)) ?_
    exact ⟨_, rfl, ⟨fun h => absurd h (by decide), fun h => by first | exact absurd h.1 (by assumption) | exact absurd h.2.1 (by assumption) | exact absurd h.2.2.1 (by assumption) | exact absurd h.2.2.2 (eq_len hl1.1 hl2.1 (by omega))⟩⟩
  try simp only [n1, n2, n3, n4, n5, n6, n7, n8, n9, na, nb] at hc4
  refine wp_skip ?_
  refine then_n ?_
  refine wp_seq ?_
  refine wp_seq ?_
  refine wp_region_lit ?_
  refine l_op rfl (r_fieldAddr hst rfl Tf70_3 rfl ?_)
  clear hst; intro a hst
  refine l_op rfl (r_loads hst rfl Ts63 (.tail _ (.head _)) rfl rfl ?_)
  clear hst; intro a hst
  refine l_op rfl (r_lensl hst rfl Tu63 rfl ?_)
  clear hst; intro a hst
  refine l_op rfl (r_move hst rfl rfl ?_)
  clear hst; intro a hst
  refine wpList_nil ?_
  refine then_n ?_
  refine wp_block ?_
  have hst := ((hst.keep (ds := [2, 3, 36, 37]) (.cons rfl (.cons rfl (.cons rfl (.cons rfl (.nil)))))).drop (.cons_cons _ (.cons_cons _ (.slnil))))
  refine wp_loop_ghost (Invsametype _ _ k m k' m' s s' A l c ts A' l' c' us g1 g2) (l) ⟨_, 0, hst, by omega, by omega, rfl, by omega⟩ ?_
  clear hst
  rintro mz a w ⟨U, i, hst, hi0, hi1, htk, rfl⟩
  refine wp_seq ?_
  refine wp_region_lit ?_
  refine l_op rfl (r_bin hst rfl rfl rfl rfl rfl ?_)
  clear hst; intro a hst
  refine wpList_nil ?_
  refine then_n ?_
  refine wp_seq ?_
  refine x_cond hst rfl (fun hc5 => ?_) (fun hc5 => ?_)
  · try simp only [n1, n2, n3, n4, n5, n6, n7, n8, n9, na, nb] at hc5
    refine wp_skip ?_
    refine then_n ?_
    refine wp_seq ?_
    refine wp_block ?_
    refine wp_seq ?_
    refine wp_region_lit ?_
    refine l_op rfl (r_move hst rfl rfl ?_)
    clear hst; intro a hst
    refine l_op rfl (r_assign hst rfl rfl ?_)
    clear hst; intro a hst
    refine wpList_nil ?_
    refine then_n ?_
    refine wp_seq ?_
    obtain ⟨g, o, cs, t, rfl, ht, hR, hel⟩ := hst.fact.1.at_ i.toNat (by omega)
    obtain ⟨g', o', ds, u, rfl, hu, hR', hel'⟩ := hst.fact.2.at_ i.toNat (by omega)
    have hcl : cs.length = 4 := kT.len hR
    have hcl' : ds.length = 4 := kT.len hR'
    have hst := (((hst.addFact (kT.mono _ _) hR).addFact (kT.mono _ _) hR').addFact (Eat.mono _ _ _) hel).addFact (Eat.mono _ _ _) hel'
    refine x_drawf (by kernel_rfl) hst (.cons_cons _ (.cons_cons _ (.slnil))) ?_
    clear hst; intro w hS hst
    refine f_take (i := 0) hS hst (.cons_cons _ (.cons_cons _ (.slnil))) rfl rfl rfl rfl (by kernel_rfl) (by kernel_rfl) (by kernel_rfl) (fun _ _ _ h => h) (fun _ _ _ _ hst => q_fieldAddr hst rfl Tf70_3) ?_
    clear hst; intro a hst
    refine f_take (i := 1) hS hst (.cons_cons _ (.cons_cons _ (.slnil))) rfl rfl rfl rfl (by kernel_rfl) (by kernel_rfl) (by kernel_rfl) (fun _ _ _ h => h) (fun _ _ _ _ hst => q_loads hst rfl Ts63 (.tail _ (.head _)) rfl) ?_
    clear hst; intro a hst
    refine f_take (i := 2) hS hst (.cons_cons _ (.cons_cons _ (.slnil))) rfl rfl rfl rfl (by kernel_rfl) (by kernel_rfl) (by kernel_rfl) (fun _ _ _ h => h) (fun _ _ _ _ hst => q_move hst rfl) ?_
    clear hst; intro a hst
    refine f_take (i := 3) hS hst (.cons_cons _ (.cons_cons _ (.slnil))) rfl rfl rfl rfl (by kernel_rfl) (by kernel_rfl) (by kernel_rfl) (fun _ _ _ h => h) (fun _ _ _ _ hst => q_indexAddr hst rfl rfl Tu63 Tsz70 (hi0) (by omega)) ?_
    clear hst; intro a hst
    refine f_take (i := 4) hS hst (.cons_cons _ (.cons_cons _ (.slnil))) rfl rfl rfl rfl (by kernel_rfl) (by kernel_rfl) (by kernel_rfl) (fun _ _ _ h => h) (fun _ _ _ _ hst => q_eatw hst rfl Ta70 (hst.fact.2.1) hcl) ?_
    clear hst; intro a hst
    refine f_take (i := 5) hS hst (.cons_cons _ (.cons_cons _ (.slnil))) rfl rfl rfl rfl (by kernel_rfl) (by kernel_rfl) (by kernel_rfl) (fun _ _ _ h => h) (fun _ _ _ _ hst => q_fieldAddr hst rfl Tf70_3) ?_
    clear hst; intro a hst
    refine f_take (i := 6) hS hst (.cons_cons _ (.cons_cons _ (.slnil))) rfl rfl rfl rfl (by kernel_rfl) (by kernel_rfl) (by kernel_rfl) (fun _ _ _ h => h) (fun _ _ _ _ hst => q_loads hst rfl Ts63 (.head _) rfl) ?_
    clear hst; intro a hst
    refine f_take (i := 7) hS hst (.cons_cons _ (.cons_cons _ (.slnil))) rfl rfl rfl rfl (by kernel_rfl) (by kernel_rfl) (by kernel_rfl) (fun _ _ _ h => h) (fun _ _ _ _ hst => q_move hst rfl) ?_
    clear hst; intro a hst
    refine f_take (i := 8) hS hst (.cons_cons _ (.cons_cons _ (.slnil))) rfl rfl rfl rfl (by kernel_rfl) (by kernel_rfl) (by kernel_rfl) (fun _ _ _ h => h) (fun _ _ _ _ hst => q_indexAddr hst rfl rfl Tu63 Tsz70 (hi0) (by omega)) ?_
    clear hst; intro a hst
    refine f_take (i := 9) hS hst (.cons_cons _ (.cons_cons _ (.slnil))) rfl rfl rfl rfl (by kernel_rfl) (by kernel_rfl) (by kernel_rfl) (fun _ _ _ h => h) (fun _ _ _ _ hst => q_eatw hst rfl Ta70 (hst.fact.1) hcl') ?_
    clear hst; intro a hst
    refine f_one (i := 10) (by kernel_rfl) rfl rfl (r_call (xs := [(Operand.tmp 44), (Operand.tmp 49)]) hst rfl Ten46 (heq t u (List.mem_of_getElem? ht) (List.mem_of_getElem? hu) _ _ _ _ (hst.fact.2.2.2.2.1) (hst.fact.2.2.2.1)) rfl ?_)
    clear hst; rintro a _ w U ⟨be, rfl, hbe⟩ hst
    refine ⟨hst.kept (.cons_cons _ (.cons_cons _ (.slnil))), ?_⟩
    refine f_take (i := 11) hS hst (.cons_cons _ (.cons_cons _ (.slnil))) rfl rfl rfl rfl (by kernel_rfl) (by kernel_rfl) (by kernel_rfl) (fun _ _ _ h => h) (fun _ _ _ _ hst => q_not hst rfl) ?_
    clear hst; intro a hst
    refine f_done (by kernel_rfl) ?_
    have hst := hS.back hst
    refine then_n ?_
    refine x_cond hst rfl (fun hc6 => ?_) (fun hc6 => ?_)
    · try simp only [n1, n2, n3, n4, n5, n6, n7, n8, n9, na, nb] at hc6
      refine wp_seq ?_
      have hst := hst.setFact (Mono.and (Sl.mono _ _ _) (Sl.mono _ _ _)) (fun h => h.2.2.2.2)
      refine wp_region_lit ?_
      refine l_op rfl (r_assign hst rfl rfl ?_)
      clear hst; intro a hst
      refine wpList_nil ?_
      refine then_n ?_
      refine wp_ret ?_
      refine inb_r ?_
      refine then_r ?_
      refine then_r ?_
      refine inb_r ?_
      refine then_r ?_
      refine x_ret (rs := [.tmp 4]) hst rfl (.tmp rfl (.nil)) ?_
      exact ⟨_, rfl, ⟨fun h => absurd h (by decide), fun h => absurd h.2.2.2 (eq_ne ht hu (by grind))⟩⟩
    try simp only [n1, n2, n3, n4, n5, n6, n7, n8, n9, na, nb] at hc6
    refine wp_skip ?_
    refine inb_n ?_
    refine then_n ?_
    have hst := hst.setFact (Mono.and (Sl.mono _ _ _) (Sl.mono _ _ _)) (fun h => h.2.2.2.2)
    refine wp_region_lit ?_
    refine l_op rfl (r_bin hst rfl rfl rfl rfl rfl ?_)
    clear hst; intro a hst
    rw [wrap_in _ (by omega) (by omega)] at hst
    refine l_op rfl (r_move hst rfl rfl ?_)
    clear hst; intro a hst
    refine wpList_nil ?_
    have hst := ((hst.keep (ds := [2, 3, 36, 37]) (.cons rfl (.cons rfl (.cons rfl (.cons rfl (.nil)))))).drop (.cons_cons _ (.cons_cons _ (.slnil))))
    exact then_k ⟨_, by omega, _, _, hst, by omega, by omega, eq_next htk hi0 ht hu (by simp_all), rfl⟩
  try simp only [n1, n2, n3, n4, n5, n6, n7, n8, n9, na, nb] at hc5
  refine wp_exit ?_
  refine then_x ?_
  refine then_x ?_
  refine inb_hit ?_
  refine then_n ?_
  refine wp_seq ?_
  refine wp_region_lit ?_
  refine l_op rfl (r_assign hst rfl rfl ?_)
  clear hst; intro a hst
  refine wpList_nil ?_
  refine then_n ?_
  refine wp_ret ?_
  refine x_ret (rs := [.tmp 4]) hst rfl (.tmp rfl (.nil)) ?_
  exact ⟨_, rfl, ⟨fun _ => ⟨by first | assumption | omega, by assumption, by first | assumption | omega, eq_all htk hl1.1 (hl2.1.trans (by omega)) (by omega)⟩, fun _ => rfl⟩⟩

def Invsameexpr (w0 : World) (U0 : Mk) (k m k' m' : Int) (s s' : ByteArray) (x y x' y' : Int) (A : Option Addr) (l c : Nat) (ts : List ExT) (A' : Option Addr) (l' c' : Nat) (us : List ExT) (g1 g2 : Nat) (mz : Nat) (a : Act) (w : World) : Prop :=
  ∃ (U : Mk) (i : Int), Sta w0 U0 66 [(2, .bool false), (3, .pointer (some ⟨g1, 0, none⟩)), (4, .pointer (some ⟨g2, 0, none⟩)), (48, .int .i64 (l : Int)), (49, .int .i64 i)] [⟨g2, 58, [.int .i64 k', .string s', .int .i64 m', .slice A' l' c', .int .i64 x', .int .i64 y']⟩, ⟨g1, 58, [.int .i64 k, .string s, .int .i64 m, .slice A l c, .int .i64 x, .int .i64 y]⟩] [] (fun w U => Sl kE (.slice A l c) ts w U ∧ Sl kE (.slice A' l' c') us w U) a w U ∧ 0 ≤ i ∧ i ≤ l ∧ ts.take i.toNat = us.take i.toNat ∧ mz = ((l : Int) - i).toNat

theorem sameexpr_c {w : World} {U : Mk} {k m k' m' : Int} {s s' : ByteArray} {A : Option Addr} {l c : Nat} {A' : Option Addr} {l' c' : Nat} {x y x' y' : Int} (ts us : List ExT) (hA : Sl kE (.slice A l c) ts w U) (hB : Sl kE (.slice A' l' c') us w U) (heq : ∀ t u, t ∈ ts → u ∈ us → EqF Tryz.prog 29 kE [.bool false] t u) :
    CallsS Tryz.prog 29 [.agg #[.int .i64 k, .string s, .int .i64 m, .slice A l c, .int .i64 x, .int .i64 y], .agg #[.int .i64 k', .string s', .int .i64 m', .slice A' l' c', .int .i64 x', .int .i64 y'], .bool false] w U (fun v _ _ => ∃ b : Bool, v = .bool b ∧ (b = true ↔ k = k' ∧ s.toList = s'.toList ∧ m = m' ∧ ts = us)) := by
  refine x_enter (F := fun w U => Sl kE (.slice A l c) ts w U ∧ Sl kE (.slice A' l' c') us w U) (n := 66) Tryz.func29 rfl rfl (by simp) (.cons (d := 0) rfl (.cons (d := 1) rfl (.cons (d := 2) rfl (.nil)))) (Mono.and (Sl.mono _ _ _) (Sl.mono _ _ _)) (⟨hA, hB⟩) ?_
  intro a hst
  refine wp_seq ?_
  refine wp_region_lit ?_
  refine l_op rfl (r_box hst rfl rfl rfl ?_)
  clear hst; intro a w g1 hst
  refine l_op rfl (r_box hst rfl rfl rfl ?_)
  clear hst; intro a w g2 hst
  refine l_op rfl (r_assign hst rfl rfl ?_)
  clear hst; intro a hst
  refine wpList_nil ?_
  refine then_n ?_
  refine wp_seq ?_
  refine wp_seq ?_
  have hl1 := hst.fact.1.len
  have hl2 := hst.fact.2.len
  refine wp_region_lit ?_
  refine l_op rfl (r_fieldAddr hst rfl Tf58_0 rfl ?_)
  clear hst; intro a hst
  refine l_op rfl (r_loads hst rfl Ts3 (.tail _ (.head _)) rfl rfl ?_)
  clear hst; intro a hst
  refine l_op rfl (r_fieldAddr hst rfl Tf58_0 rfl ?_)
  clear hst; intro a hst
  refine l_op rfl (r_loads hst rfl Ts3 (.head _) rfl rfl ?_)
  clear hst; intro a hst
  refine l_op rfl (r_bin hst rfl rfl rfl rfl rfl ?_)
  clear hst; intro a hst
  refine l_op rfl (r_move hst rfl rfl ?_)
  clear hst; intro a hst
  refine hst.split (t := 13) rfl (fun hc1 hst => ?_) (fun hc1 hst => ?_)
  · try simp only [n1, n2, n3, n4, n5, n6, n7, n8, n9, na, nb] at hc1
    refine l_off hst rfl rfl rfl (by decide) rfl rfl ?_
    clear hst; intro a hst
    refine l_off hst rfl rfl rfl (by decide) rfl rfl ?_
    clear hst; intro a hst
    refine l_off hst rfl rfl rfl (by decide) rfl rfl ?_
    clear hst; intro a hst
    refine l_off hst rfl rfl rfl (by decide) rfl rfl ?_
    clear hst; intro a hst
    refine l_off hst rfl rfl rfl (by decide) rfl rfl ?_
    clear hst; intro a hst
    refine l_op rfl (r_pick hst rfl rfl rfl ?_)
    clear hst; intro a hst
    refine l_op rfl (r_move hst rfl rfl ?_)
    clear hst; intro a hst
    refine l_off hst rfl rfl rfl (by decide) rfl rfl ?_
    clear hst; intro a hst
    refine l_off hst rfl rfl rfl (by decide) rfl rfl ?_
    clear hst; intro a hst
    refine l_off hst rfl rfl rfl (by decide) rfl rfl ?_
    clear hst; intro a hst
    refine l_off hst rfl rfl rfl (by decide) rfl rfl ?_
    clear hst; intro a hst
    refine l_off hst rfl rfl rfl (by decide) rfl rfl ?_
    clear hst; intro a hst
    refine l_op rfl (r_pick hst rfl rfl rfl ?_)
    clear hst; intro a hst
    refine l_op rfl (r_move hst rfl rfl ?_)
    clear hst; intro a hst
    refine l_off hst rfl rfl rfl (by decide) rfl rfl ?_
    clear hst; intro a hst
    refine l_off hst rfl rfl rfl (by decide) rfl rfl ?_
    clear hst; intro a hst
    refine l_off hst rfl rfl rfl (by decide) rfl rfl ?_
    clear hst; intro a hst
    refine l_off hst rfl rfl rfl (by decide) rfl rfl ?_
    clear hst; intro a hst
    refine l_off hst rfl rfl rfl (by decide) rfl rfl ?_
    clear hst; intro a hst
    refine l_off hst rfl rfl rfl (by decide) rfl rfl ?_
    clear hst; intro a hst
    refine l_off hst rfl rfl rfl (by decide) rfl rfl ?_
    clear hst; intro a hst
    refine l_op rfl (r_pick hst rfl rfl rfl ?_)
    clear hst; intro a hst
    refine l_op rfl (r_move hst rfl rfl ?_)
    clear hst; intro a hst
    refine l_off hst rfl rfl rfl (by decide) rfl rfl ?_
    clear hst; intro a hst
    refine l_off hst rfl rfl rfl (by decide) rfl rfl ?_
    clear hst; intro a hst
    refine l_undef hst rfl rfl rfl rfl rfl ?_
    clear hst; intro a hst
    refine l_undef hst rfl rfl rfl rfl rfl ?_
    clear hst; intro a hst
    refine l_undef hst rfl rfl rfl rfl rfl ?_
    clear hst; intro a hst
    refine l_undef hst rfl rfl rfl rfl rfl ?_
    clear hst; intro a hst
    refine l_undef hst rfl rfl rfl rfl rfl ?_
    clear hst; intro a hst
    refine l_off hst rfl rfl rfl (by decide) rfl rfl ?_
    clear hst; intro a hst
    refine l_op rfl (r_pick hst rfl rfl rfl ?_)
    clear hst; intro a hst
    refine wpList_nil ?_
    refine then_n ?_
    refine x_cond_t hst rfl ?_
    refine wp_seq ?_
    refine wp_region_lit ?_
    refine l_op rfl (r_assign hst rfl rfl ?_)
    clear hst; intro a hst
    refine wpList_nil ?_
    refine then_n ?_
    refine wp_ret ?_
    refine then_r ?_
    refine x_ret (rs := [.tmp 6]) hst rfl (.tmp rfl (.nil)) ?_
    exact ⟨_, rfl, ⟨fun h => absurd h (by decide), fun h => by first | exact absurd h.1 (by assumption) | exact absurd h.2.1 (by assumption) | exact absurd h.2.2.1 (by assumption) | exact absurd h.2.2.2 (eq_len hl1.1 hl2.1 (by omega))⟩⟩
  try simp only [n1, n2, n3, n4, n5, n6, n7, n8, n9, na, nb] at hc1
  refine l_on hst rfl rfl rfl (r_fieldAddr hst rfl Tf58_1 rfl ?_)
  clear hst; intro a hst
  refine l_on hst rfl rfl rfl (r_loads hst rfl Ts9 (.tail _ (.head _)) rfl rfl ?_)
  clear hst; intro a hst
  refine l_on hst rfl rfl rfl (r_fieldAddr hst rfl Tf58_1 rfl ?_)
  clear hst; intro a hst
  refine l_on hst rfl rfl rfl (r_loads hst rfl Ts9 (.head _) rfl rfl ?_)
  clear hst; intro a hst
  refine l_on hst rfl rfl rfl (r_bin hst rfl rfl rfl rfl rfl ?_)
  clear hst; intro a hst
  refine l_op rfl (r_pick hst rfl rfl rfl ?_)
  clear hst; intro a hst
  refine l_op rfl (r_move hst rfl rfl ?_)
  clear hst; intro a hst
  refine hst.split (t := 20) rfl (fun hc2 hst => ?_) (fun hc2 hst => ?_)
  · try simp only [n1, n2, n3, n4, n5, n6, n7, n8, n9, na, nb] at hc2
    refine l_off hst rfl rfl rfl (by decide) rfl rfl ?_
    clear hst; intro a hst
    refine l_off hst rfl rfl rfl (by decide) rfl rfl ?_
    clear hst; intro a hst
    refine l_off hst rfl rfl rfl (by decide) rfl rfl ?_
    clear hst; intro a hst
    refine l_off hst rfl rfl rfl (by decide) rfl rfl ?_
    clear hst; intro a hst
    refine l_off hst rfl rfl rfl (by decide) rfl rfl ?_
    clear hst; intro a hst
    refine l_op rfl (r_pick hst rfl rfl rfl ?_)
    clear hst; intro a hst
    refine l_op rfl (r_move hst rfl rfl ?_)
    clear hst; intro a hst
    refine l_off hst rfl rfl rfl (by decide) rfl rfl ?_
    clear hst; intro a hst
    refine l_off hst rfl rfl rfl (by decide) rfl rfl ?_
    clear hst; intro a hst
    refine l_off hst rfl rfl rfl (by decide) rfl rfl ?_
    clear hst; intro a hst
    refine l_off hst rfl rfl rfl (by decide) rfl rfl ?_
    clear hst; intro a hst
    refine l_off hst rfl rfl rfl (by decide) rfl rfl ?_
    clear hst; intro a hst
    refine l_off hst rfl rfl rfl (by decide) rfl rfl ?_
    clear hst; intro a hst
    refine l_off hst rfl rfl rfl (by decide) rfl rfl ?_
    clear hst; intro a hst
    refine l_op rfl (r_pick hst rfl rfl rfl ?_)
    clear hst; intro a hst
    refine l_op rfl (r_move hst rfl rfl ?_)
    clear hst; intro a hst
    refine l_off hst rfl rfl rfl (by decide) rfl rfl ?_
    clear hst; intro a hst
    refine l_off hst rfl rfl rfl (by decide) rfl rfl ?_
    clear hst; intro a hst
    refine l_undef hst rfl rfl rfl rfl rfl ?_
    clear hst; intro a hst
    refine l_undef hst rfl rfl rfl rfl rfl ?_
    clear hst; intro a hst
    refine l_undef hst rfl rfl rfl rfl rfl ?_
    clear hst; intro a hst
    refine l_undef hst rfl rfl rfl rfl rfl ?_
    clear hst; intro a hst
    refine l_undef hst rfl rfl rfl rfl rfl ?_
    clear hst; intro a hst
    refine l_off hst rfl rfl rfl (by decide) rfl rfl ?_
    clear hst; intro a hst
    refine l_op rfl (r_pick hst rfl rfl rfl ?_)
    clear hst; intro a hst
    refine wpList_nil ?_
    refine then_n ?_
    refine x_cond_t hst rfl ?_
    refine wp_seq ?_
    refine wp_region_lit ?_
    refine l_op rfl (r_assign hst rfl rfl ?_)
    clear hst; intro a hst
    refine wpList_nil ?_
    refine then_n ?_
    refine wp_ret ?_
    refine then_r ?_
    refine x_ret (rs := [.tmp 6]) hst rfl (.tmp rfl (.nil)) ?_
    exact ⟨_, rfl, ⟨fun h => absurd h (by decide), fun h => by first | exact absurd h.1 (by assumption) | exact absurd h.2.1 (by assumption) | exact absurd h.2.2.1 (by assumption) | exact absurd h.2.2.2 (eq_len hl1.1 hl2.1 (by omega))⟩⟩
  try simp only [n1, n2, n3, n4, n5, n6, n7, n8, n9, na, nb] at hc2
  refine l_on hst rfl rfl rfl (r_fieldAddr hst rfl Tf58_2 rfl ?_)
  clear hst; intro a hst
  refine l_on hst rfl rfl rfl (r_loads hst rfl Ts3 (.tail _ (.head _)) rfl rfl ?_)
  clear hst; intro a hst
  refine l_on hst rfl rfl rfl (r_fieldAddr hst rfl Tf58_2 rfl ?_)
  clear hst; intro a hst
  refine l_on hst rfl rfl rfl (r_loads hst rfl Ts3 (.head _) rfl rfl ?_)
  clear hst; intro a hst
  refine l_on hst rfl rfl rfl (r_bin hst rfl rfl rfl rfl rfl ?_)
  clear hst; intro a hst
  refine l_op rfl (r_pick hst rfl rfl rfl ?_)
  clear hst; intro a hst
  refine l_op rfl (r_move hst rfl rfl ?_)
  clear hst; intro a hst
  refine hst.split (t := 27) rfl (fun hc3 hst => ?_) (fun hc3 hst => ?_)
  · try simp only [n1, n2, n3, n4, n5, n6, n7, n8, n9, na, nb] at hc3
    refine l_off hst rfl rfl rfl (by decide) rfl rfl ?_
    clear hst; intro a hst
    refine l_off hst rfl rfl rfl (by decide) rfl rfl ?_
    clear hst; intro a hst
    refine l_off hst rfl rfl rfl (by decide) rfl rfl ?_
    clear hst; intro a hst
    refine l_off hst rfl rfl rfl (by decide) rfl rfl ?_
    clear hst; intro a hst
    refine l_off hst rfl rfl rfl (by decide) rfl rfl ?_
    clear hst; intro a hst
    refine l_off hst rfl rfl rfl (by decide) rfl rfl ?_
    clear hst; intro a hst
    refine l_off hst rfl rfl rfl (by decide) rfl rfl ?_
    clear hst; intro a hst
    refine l_op rfl (r_pick hst rfl rfl rfl ?_)
    clear hst; intro a hst
    refine l_op rfl (r_move hst rfl rfl ?_)
    clear hst; intro a hst
    refine l_off hst rfl rfl rfl (by decide) rfl rfl ?_
    clear hst; intro a hst
    refine l_off hst rfl rfl rfl (by decide) rfl rfl ?_
    clear hst; intro a hst
    refine l_undef hst rfl rfl rfl rfl rfl ?_
    clear hst; intro a hst
    refine l_undef hst rfl rfl rfl rfl rfl ?_
    clear hst; intro a hst
    refine l_undef hst rfl rfl rfl rfl rfl ?_
    clear hst; intro a hst
    refine l_undef hst rfl rfl rfl rfl rfl ?_
    clear hst; intro a hst
    refine l_undef hst rfl rfl rfl rfl rfl ?_
    clear hst; intro a hst
    refine l_off hst rfl rfl rfl (by decide) rfl rfl ?_
    clear hst; intro a hst
    refine l_op rfl (r_pick hst rfl rfl rfl ?_)
    clear hst; intro a hst
    refine wpList_nil ?_
    refine then_n ?_
    refine x_cond_t hst rfl ?_
    refine wp_seq ?_
    refine wp_region_lit ?_
    refine l_op rfl (r_assign hst rfl rfl ?_)
    clear hst; intro a hst
    refine wpList_nil ?_
    refine then_n ?_
    refine wp_ret ?_
    refine then_r ?_
    refine x_ret (rs := [.tmp 6]) hst rfl (.tmp rfl (.nil)) ?_
    exact ⟨_, rfl, ⟨fun h => absurd h (by decide), fun h => by first | exact absurd h.1 (by assumption) | exact absurd h.2.1 (by assumption) | exact absurd h.2.2.1 (by assumption) | exact absurd h.2.2.2 (eq_len hl1.1 hl2.1 (by omega))⟩⟩
  try simp only [n1, n2, n3, n4, n5, n6, n7, n8, n9, na, nb] at hc3
  refine l_on hst rfl rfl rfl (r_fieldAddr hst rfl Tf58_3 rfl ?_)
  clear hst; intro a hst
  refine l_on hst rfl rfl rfl (r_loads hst rfl Ts56 (.tail _ (.head _)) rfl rfl ?_)
  clear hst; intro a hst
  refine l_on hst rfl rfl rfl (r_lensl hst rfl Tu56 rfl ?_)
  clear hst; intro a hst
  refine l_on hst rfl rfl rfl (r_fieldAddr hst rfl Tf58_3 rfl ?_)
  clear hst; intro a hst
  refine l_on hst rfl rfl rfl (r_loads hst rfl Ts56 (.head _) rfl rfl ?_)
  clear hst; intro a hst
  refine l_on hst rfl rfl rfl (r_lensl hst rfl Tu56 rfl ?_)
  clear hst; intro a hst
  refine l_on hst rfl rfl rfl (r_bin hst rfl rfl rfl rfl rfl ?_)
  clear hst; intro a hst
  refine l_op rfl (r_pick hst rfl rfl rfl ?_)
  clear hst; intro a hst
  refine l_op rfl (r_move hst rfl rfl ?_)
  clear hst; intro a hst
  refine hst.split (t := 36) rfl (fun hc4 hst => ?_) (fun hc4 hst => ?_)
  · try simp only [n1, n2, n3, n4, n5, n6, n7, n8, n9, na, nb] at hc4
    refine l_off hst rfl rfl rfl (by decide) rfl rfl ?_
    clear hst; intro a hst
    refine l_off hst rfl rfl rfl (by decide) rfl rfl ?_
    clear hst; intro a hst
    refine l_undef hst rfl rfl rfl rfl rfl ?_
    clear hst; intro a hst
    refine l_undef hst rfl rfl rfl rfl rfl ?_
    clear hst; intro a hst
    refine l_undef hst rfl rfl rfl rfl rfl ?_
    clear hst; intro a hst
    refine l_undef hst rfl rfl rfl rfl rfl ?_
    clear hst; intro a hst
    refine l_undef hst rfl rfl rfl rfl rfl ?_
    clear hst; intro a hst
    refine l_off hst rfl rfl rfl (by decide) rfl rfl ?_
    clear hst; intro a hst
    refine l_op rfl (r_pick hst rfl rfl rfl ?_)
    clear hst; intro a hst
    refine wpList_nil ?_
    refine then_n ?_
    refine x_cond_t hst rfl ?_
    refine wp_seq ?_
    refine wp_region_lit ?_
    refine l_op rfl (r_assign hst rfl rfl ?_)
    clear hst; intro a hst
    refine wpList_nil ?_
    refine then_n ?_
    refine wp_ret ?_
    refine then_r ?_
    refine x_ret (rs := [.tmp 6]) hst rfl (.tmp rfl (.nil)) ?_
    exact ⟨_, rfl, ⟨fun h => absurd h (by decide), fun h => by first | exact absurd h.1 (by assumption) | exact absurd h.2.1 (by assumption) | exact absurd h.2.2.1 (by assumption) | exact absurd h.2.2.2 (eq_len hl1.1 hl2.1 (by omega))⟩⟩
  try simp only [n1, n2, n3, n4, n5, n6, n7, n8, n9, na, nb] at hc4
  refine l_on hst rfl rfl rfl (r_move hst rfl rfl ?_)
  clear hst; intro a hst
  refine l_on hst rfl rfl rfl (r_move hst rfl rfl ?_)
  clear hst; intro a hst
  refine l_off hst rfl rfl rfl (by decide) rfl rfl ?_
  clear hst; intro a hst
  refine l_off hst rfl rfl rfl (by decide) rfl rfl ?_
  clear hst; intro a hst
  refine l_off hst rfl rfl rfl (by decide) rfl rfl ?_
  clear hst; intro a hst
  refine l_off hst rfl rfl rfl (by decide) rfl rfl ?_
  clear hst; intro a hst
  refine l_off hst rfl rfl rfl (by decide) rfl rfl ?_
  clear hst; intro a hst
  refine l_on hst rfl rfl rfl (r_pick hst rfl rfl rfl ?_)
  clear hst; intro a hst
  refine l_op rfl (r_pick hst rfl rfl rfl ?_)
  clear hst; intro a hst
  refine wpList_nil ?_
  refine then_n ?_
  refine x_cond_f hst rfl ?_
  refine wp_skip ?_
  refine then_n ?_
  refine wp_seq ?_
  refine wp_seq ?_
  refine wp_region_lit ?_
  refine l_op rfl (r_fieldAddr hst rfl Tf58_3 rfl ?_)
  clear hst; intro a hst
  refine l_op rfl (r_loads hst rfl Ts56 (.tail _ (.head _)) rfl rfl ?_)
  clear hst; intro a hst
  refine l_op rfl (r_lensl hst rfl Tu56 rfl ?_)
  clear hst; intro a hst
  refine l_op rfl (r_move hst rfl rfl ?_)
  clear hst; intro a hst
  refine wpList_nil ?_
  refine then_n ?_
  refine wp_block ?_
  have hst := ((hst.keep (ds := [2, 3, 4, 48, 49]) (.cons rfl (.cons rfl (.cons rfl (.cons rfl (.cons rfl (.nil))))))).drop (.cons_cons _ (.cons_cons _ (.slnil))))
  refine wp_loop_ghost (Invsameexpr _ _ k m k' m' s s' x y x' y' A l c ts A' l' c' us g1 g2) (l) ⟨_, 0, hst, by omega, by omega, rfl, by omega⟩ ?_
  clear hst
  rintro mz a w ⟨U, i, hst, hi0, hi1, htk, rfl⟩
  refine wp_seq ?_
  refine wp_region_lit ?_
  refine l_op rfl (r_bin hst rfl rfl rfl rfl rfl ?_)
  clear hst; intro a hst
  refine wpList_nil ?_
  refine then_n ?_
  refine wp_seq ?_
  refine x_cond hst rfl (fun hc5 => ?_) (fun hc5 => ?_)
  · try simp only [n1, n2, n3, n4, n5, n6, n7, n8, n9, na, nb] at hc5
    refine wp_skip ?_
    refine then_n ?_
    refine wp_seq ?_
    refine wp_block ?_
    refine wp_seq ?_
    refine wp_region_lit ?_
    refine l_op rfl (r_move hst rfl rfl ?_)
    clear hst; intro a hst
    refine l_op rfl (r_assign hst rfl rfl ?_)
    clear hst; intro a hst
    refine wpList_nil ?_
    refine then_n ?_
    refine wp_seq ?_
    obtain ⟨g, o, cs, t, rfl, ht, hR, hel⟩ := hst.fact.1.at_ i.toNat (by omega)
    obtain ⟨g', o', ds, u, rfl, hu, hR', hel'⟩ := hst.fact.2.at_ i.toNat (by omega)
    have hcl : cs.length = 6 := kE.len hR
    have hcl' : ds.length = 6 := kE.len hR'
    have hst := (((hst.addFact (kE.mono _ _) hR).addFact (kE.mono _ _) hR').addFact (Eat.mono _ _ _) hel).addFact (Eat.mono _ _ _) hel'
    refine x_drawf (by kernel_rfl) hst (.cons_cons _ (.cons_cons _ (.slnil))) ?_
    clear hst; intro w hS hst
    refine f_take (i := 0) hS hst (.cons_cons _ (.cons_cons _ (.slnil))) rfl rfl rfl rfl (by kernel_rfl) (by kernel_rfl) (by kernel_rfl) (fun _ _ _ h => h) (fun _ _ _ _ hst => q_fieldAddr hst rfl Tf58_3) ?_
    clear hst; intro a hst
    refine f_take (i := 1) hS hst (.cons_cons _ (.cons_cons _ (.slnil))) rfl rfl rfl rfl (by kernel_rfl) (by kernel_rfl) (by kernel_rfl) (fun _ _ _ h => h) (fun _ _ _ _ hst => q_loads hst rfl Ts56 (.tail _ (.head _)) rfl) ?_
    clear hst; intro a hst
    refine f_take (i := 2) hS hst (.cons_cons _ (.cons_cons _ (.slnil))) rfl rfl rfl rfl (by kernel_rfl) (by kernel_rfl) (by kernel_rfl) (fun _ _ _ h => h) (fun _ _ _ _ hst => q_move hst rfl) ?_
    clear hst; intro a hst
    refine f_take (i := 3) hS hst (.cons_cons _ (.cons_cons _ (.slnil))) rfl rfl rfl rfl (by kernel_rfl) (by kernel_rfl) (by kernel_rfl) (fun _ _ _ h => h) (fun _ _ _ _ hst => q_indexAddr hst rfl rfl Tu56 Tsz58 (hi0) (by omega)) ?_
    clear hst; intro a hst
    refine f_take (i := 4) hS hst (.cons_cons _ (.cons_cons _ (.slnil))) rfl rfl rfl rfl (by kernel_rfl) (by kernel_rfl) (by kernel_rfl) (fun _ _ _ h => h) (fun _ _ _ _ hst => q_eatw hst rfl Ta58 (hst.fact.2.1) hcl) ?_
    clear hst; intro a hst
    refine f_take (i := 5) hS hst (.cons_cons _ (.cons_cons _ (.slnil))) rfl rfl rfl rfl (by kernel_rfl) (by kernel_rfl) (by kernel_rfl) (fun _ _ _ h => h) (fun _ _ _ _ hst => q_fieldAddr hst rfl Tf58_3) ?_
    clear hst; intro a hst
    refine f_take (i := 6) hS hst (.cons_cons _ (.cons_cons _ (.slnil))) rfl rfl rfl rfl (by kernel_rfl) (by kernel_rfl) (by kernel_rfl) (fun _ _ _ h => h) (fun _ _ _ _ hst => q_loads hst rfl Ts56 (.head _) rfl) ?_
    clear hst; intro a hst
    refine f_take (i := 7) hS hst (.cons_cons _ (.cons_cons _ (.slnil))) rfl rfl rfl rfl (by kernel_rfl) (by kernel_rfl) (by kernel_rfl) (fun _ _ _ h => h) (fun _ _ _ _ hst => q_move hst rfl) ?_
    clear hst; intro a hst
    refine f_take (i := 8) hS hst (.cons_cons _ (.cons_cons _ (.slnil))) rfl rfl rfl rfl (by kernel_rfl) (by kernel_rfl) (by kernel_rfl) (fun _ _ _ h => h) (fun _ _ _ _ hst => q_indexAddr hst rfl rfl Tu56 Tsz58 (hi0) (by omega)) ?_
    clear hst; intro a hst
    refine f_take (i := 9) hS hst (.cons_cons _ (.cons_cons _ (.slnil))) rfl rfl rfl rfl (by kernel_rfl) (by kernel_rfl) (by kernel_rfl) (fun _ _ _ h => h) (fun _ _ _ _ hst => q_eatw hst rfl Ta58 (hst.fact.1) hcl') ?_
    clear hst; intro a hst
    refine f_take (i := 10) hS hst (.cons_cons _ (.cons_cons _ (.slnil))) rfl rfl rfl rfl (by kernel_rfl) (by kernel_rfl) (by kernel_rfl) (fun _ _ _ h => h) (fun _ _ _ _ hst => q_move hst rfl) ?_
    clear hst; intro a hst
    refine f_one (i := 11) (by kernel_rfl) rfl rfl (r_call (xs := [(Operand.tmp 56), (Operand.tmp 61), (Operand.tmp 62)]) hst rfl Ten29 (heq t u (List.mem_of_getElem? ht) (List.mem_of_getElem? hu) _ _ _ _ (hst.fact.2.2.2.2.1) (hst.fact.2.2.2.1)) rfl ?_)
    clear hst; rintro a _ w U ⟨be, rfl, hbe⟩ hst
    refine ⟨hst.kept (.cons_cons _ (.cons_cons _ (.slnil))), ?_⟩
    refine f_take (i := 12) hS hst (.cons_cons _ (.cons_cons _ (.slnil))) rfl rfl rfl rfl (by kernel_rfl) (by kernel_rfl) (by kernel_rfl) (fun _ _ _ h => h) (fun _ _ _ _ hst => q_not hst rfl) ?_
    clear hst; intro a hst
    refine f_done (by kernel_rfl) ?_
    have hst := hS.back hst
    refine then_n ?_
    refine x_cond hst rfl (fun hc6 => ?_) (fun hc6 => ?_)
    · try simp only [n1, n2, n3, n4, n5, n6, n7, n8, n9, na, nb] at hc6
      refine wp_seq ?_
      have hst := hst.setFact (Mono.and (Sl.mono _ _ _) (Sl.mono _ _ _)) (fun h => h.2.2.2.2)
      refine wp_region_lit ?_
      refine l_op rfl (r_assign hst rfl rfl ?_)
      clear hst; intro a hst
      refine wpList_nil ?_
      refine then_n ?_
      refine wp_ret ?_
      refine inb_r ?_
      refine then_r ?_
      refine then_r ?_
      refine inb_r ?_
      refine then_r ?_
      refine x_ret (rs := [.tmp 6]) hst rfl (.tmp rfl (.nil)) ?_
      exact ⟨_, rfl, ⟨fun h => absurd h (by decide), fun h => absurd h.2.2.2 (eq_ne ht hu (by grind))⟩⟩
    try simp only [n1, n2, n3, n4, n5, n6, n7, n8, n9, na, nb] at hc6
    refine wp_skip ?_
    refine inb_n ?_
    refine then_n ?_
    have hst := hst.setFact (Mono.and (Sl.mono _ _ _) (Sl.mono _ _ _)) (fun h => h.2.2.2.2)
    refine wp_region_lit ?_
    refine l_op rfl (r_bin hst rfl rfl rfl rfl rfl ?_)
    clear hst; intro a hst
    rw [wrap_in _ (by omega) (by omega)] at hst
    refine l_op rfl (r_move hst rfl rfl ?_)
    clear hst; intro a hst
    refine wpList_nil ?_
    have hst := ((hst.keep (ds := [2, 3, 4, 48, 49]) (.cons rfl (.cons rfl (.cons rfl (.cons rfl (.cons rfl (.nil))))))).drop (.cons_cons _ (.cons_cons _ (.slnil))))
    exact then_k ⟨_, by omega, _, _, hst, by omega, by omega, eq_next htk hi0 ht hu (by simp_all), rfl⟩
  try simp only [n1, n2, n3, n4, n5, n6, n7, n8, n9, na, nb] at hc5
  refine wp_exit ?_
  refine then_x ?_
  refine then_x ?_
  refine inb_hit ?_
  refine then_n ?_
  refine wp_seq ?_
  refine wp_region_lit ?_
  refine l_op rfl (r_assign hst rfl rfl ?_)
  clear hst; intro a hst
  refine wpList_nil ?_
  refine then_n ?_
  refine wp_ret ?_
  refine x_ret (rs := [.tmp 6]) hst rfl (.tmp rfl (.nil)) ?_
  exact ⟨_, rfl, ⟨fun _ => ⟨by first | assumption | omega, by assumption, by first | assumption | omega, eq_all htk hl1.1 (hl2.1.trans (by omega)) (by omega)⟩, fun _ => rfl⟩⟩

theorem psametype_c {w : World} {U : Mk} {k m k' m' : Int} {s s' : ByteArray} {A : Option Addr} {l c : Nat} {A' : Option Addr} {l' c' : Nat} (ts us : List TyT) (hA : Sl kT (.slice A l c) ts w U) (hB : Sl kT (.slice A' l' c') us w U) (heq : ∀ t u, t ∈ ts → u ∈ us → EqF Tryz.prog 22 kT [] t u) :
    CallsS Tryz.prog 22 [.agg #[.int .i64 k, .string s, .int .i64 m, .slice A l c], .agg #[.int .i64 k', .string s', .int .i64 m', .slice A' l' c']] w U (fun v _ _ => ∃ b : Bool, v = .bool b ∧ (b = true ↔ k = k' ∧ s.toList = s'.toList ∧ m = m' ∧ ts = us)) := by
  refine x_enter (F := fun w U => Sl kT (.slice A l c) ts w U ∧ Sl kT (.slice A' l' c') us w U) (n := 31) Tryz.func22 rfl rfl (by simp) (.cons (d := 0) rfl (.cons (d := 1) rfl (.nil))) (Mono.and (Sl.mono _ _ _) (Sl.mono _ _ _)) (⟨hA, hB⟩) ?_
  intro a hst
  refine wp_seq ?_
  refine wp_region_lit ?_
  refine l_op rfl (r_box hst rfl rfl rfl ?_)
  clear hst; intro a w g1 hst
  refine l_op rfl (r_box hst rfl rfl rfl ?_)
  clear hst; intro a w g2 hst
  refine l_op rfl (r_assign hst rfl rfl ?_)
  clear hst; intro a hst
  refine wpList_nil ?_
  refine then_n ?_
  refine wp_seq ?_
  refine wp_region_lit ?_
  refine l_op rfl (r_fieldAddr hst rfl Tf70_0 rfl ?_)
  clear hst; intro a hst
  refine l_op rfl (r_loads hst rfl Ts3 (.tail _ (.head _)) rfl rfl ?_)
  clear hst; intro a hst
  refine l_op rfl (r_fieldAddr hst rfl Tf70_0 rfl ?_)
  clear hst; intro a hst
  refine l_op rfl (r_loads hst rfl Ts3 (.head _) rfl rfl ?_)
  clear hst; intro a hst
  refine l_op rfl (r_bin hst rfl rfl rfl rfl rfl ?_)
  clear hst; intro a hst
  refine l_op rfl (r_move hst rfl rfl ?_)
  clear hst; intro a hst
  refine hst.split (t := 10) rfl (fun hc1 hst => ?_) (fun hc1 hst => ?_)
  · try simp only [n1, n2, n3, n4, n5, n6, n7, n8, n9, na, nb] at hc1
    refine l_on hst rfl rfl rfl (r_fieldAddr hst rfl Tf70_1 rfl ?_)
    clear hst; intro a hst
    refine l_on hst rfl rfl rfl (r_loads hst rfl Ts9 (.tail _ (.head _)) rfl rfl ?_)
    clear hst; intro a hst
    refine l_on hst rfl rfl rfl (r_fieldAddr hst rfl Tf70_1 rfl ?_)
    clear hst; intro a hst
    refine l_on hst rfl rfl rfl (r_loads hst rfl Ts9 (.head _) rfl rfl ?_)
    clear hst; intro a hst
    refine l_on hst rfl rfl rfl (r_bin hst rfl rfl rfl rfl rfl ?_)
    clear hst; intro a hst
    refine l_op rfl (r_pick hst rfl rfl rfl ?_)
    clear hst; intro a hst
    refine l_op rfl (r_move hst rfl rfl ?_)
    clear hst; intro a hst
    refine hst.split (t := 17) rfl (fun hc2 hst => ?_) (fun hc2 hst => ?_)
    · try simp only [n1, n2, n3, n4, n5, n6, n7, n8, n9, na, nb] at hc2
      refine l_on hst rfl rfl rfl (r_fieldAddr hst rfl Tf70_2 rfl ?_)
      clear hst; intro a hst
      refine l_on hst rfl rfl rfl (r_loads hst rfl Ts3 (.tail _ (.head _)) rfl rfl ?_)
      clear hst; intro a hst
      refine l_on hst rfl rfl rfl (r_fieldAddr hst rfl Tf70_2 rfl ?_)
      clear hst; intro a hst
      refine l_on hst rfl rfl rfl (r_loads hst rfl Ts3 (.head _) rfl rfl ?_)
      clear hst; intro a hst
      refine l_on hst rfl rfl rfl (r_bin hst rfl rfl rfl rfl rfl ?_)
      clear hst; intro a hst
      refine l_op rfl (r_pick hst rfl rfl rfl ?_)
      clear hst; intro a hst
      refine l_op rfl (r_move hst rfl rfl ?_)
      clear hst; intro a hst
      refine hst.split (t := 24) rfl (fun hc3 hst => ?_) (fun hc3 hst => ?_)
      · try simp only [n1, n2, n3, n4, n5, n6, n7, n8, n9, na, nb] at hc3
        refine l_on hst rfl rfl rfl (r_fieldAddr hst rfl Tf70_3 rfl ?_)
        clear hst; intro a hst
        refine l_on hst rfl rfl rfl (r_loads hst rfl Ts63 (.tail _ (.head _)) rfl rfl ?_)
        clear hst; intro a hst
        refine l_on hst rfl rfl rfl (r_fieldAddr hst rfl Tf70_3 rfl ?_)
        clear hst; intro a hst
        refine l_on hst rfl rfl rfl (r_loads hst rfl Ts63 (.head _) rfl rfl ?_)
        clear hst; intro a hst
        refine l_on hst rfl rfl rfl (r_call (xs := [(Operand.tmp 26), (Operand.tmp 28), (Operand.func 22)]) hst rfl Ten21 (eqfT_c _ _ 22 Ten22 hst.fact.1 hst.fact.2 heq) rfl ?_)
        clear hst; rintro a _ w U ⟨be, rfl, hbe⟩ hst
        refine l_op rfl (r_pick hst rfl rfl rfl ?_)
        clear hst; intro a hst
        refine l_op rfl (r_assign hst rfl rfl ?_)
        clear hst; intro a hst
        refine wpList_nil ?_
        refine then_n ?_
        refine wp_ret ?_
        refine x_ret (rs := [.tmp 4]) hst rfl (.tmp rfl (.nil)) ?_
        exact ⟨_, rfl, by grind⟩
      try simp only [n1, n2, n3, n4, n5, n6, n7, n8, n9, na, nb] at hc3
      refine l_off hst rfl rfl rfl (by decide) rfl rfl ?_
      clear hst; intro a hst
      refine l_off hst rfl rfl rfl (by decide) rfl rfl ?_
      clear hst; intro a hst
      refine l_off hst rfl rfl rfl (by decide) rfl rfl ?_
      clear hst; intro a hst
      refine l_off hst rfl rfl rfl (by decide) rfl rfl ?_
      clear hst; intro a hst
      refine l_off hst rfl rfl rfl (by decide) rfl rfl ?_
      clear hst; intro a hst
      refine l_op rfl (r_pick hst rfl rfl rfl ?_)
      clear hst; intro a hst
      refine l_op rfl (r_assign hst rfl rfl ?_)
      clear hst; intro a hst
      refine wpList_nil ?_
      refine then_n ?_
      refine wp_ret ?_
      refine x_ret (rs := [.tmp 4]) hst rfl (.tmp rfl (.nil)) ?_
      exact ⟨_, rfl, by grind⟩
    try simp only [n1, n2, n3, n4, n5, n6, n7, n8, n9, na, nb] at hc2
    refine l_off hst rfl rfl rfl (by decide) rfl rfl ?_
    clear hst; intro a hst
    refine l_off hst rfl rfl rfl (by decide) rfl rfl ?_
    clear hst; intro a hst
    refine l_off hst rfl rfl rfl (by decide) rfl rfl ?_
    clear hst; intro a hst
    refine l_off hst rfl rfl rfl (by decide) rfl rfl ?_
    clear hst; intro a hst
    refine l_off hst rfl rfl rfl (by decide) rfl rfl ?_
    clear hst; intro a hst
    refine l_op rfl (r_pick hst rfl rfl rfl ?_)
    clear hst; intro a hst
    refine l_op rfl (r_move hst rfl rfl ?_)
    clear hst; intro a hst
    refine l_off hst rfl rfl rfl (by decide) rfl rfl ?_
    clear hst; intro a hst
    refine l_off hst rfl rfl rfl (by decide) rfl rfl ?_
    clear hst; intro a hst
    refine l_off hst rfl rfl rfl (by decide) rfl rfl ?_
    clear hst; intro a hst
    refine l_off hst rfl rfl rfl (by decide) rfl rfl ?_
    clear hst; intro a hst
    refine l_off hst rfl rfl rfl (by decide) rfl rfl ?_
    clear hst; intro a hst
    refine l_op rfl (r_pick hst rfl rfl rfl ?_)
    clear hst; intro a hst
    refine l_op rfl (r_assign hst rfl rfl ?_)
    clear hst; intro a hst
    refine wpList_nil ?_
    refine then_n ?_
    refine wp_ret ?_
    refine x_ret (rs := [.tmp 4]) hst rfl (.tmp rfl (.nil)) ?_
    exact ⟨_, rfl, by grind⟩
  try simp only [n1, n2, n3, n4, n5, n6, n7, n8, n9, na, nb] at hc1
  refine l_off hst rfl rfl rfl (by decide) rfl rfl ?_
  clear hst; intro a hst
  refine l_off hst rfl rfl rfl (by decide) rfl rfl ?_
  clear hst; intro a hst
  refine l_off hst rfl rfl rfl (by decide) rfl rfl ?_
  clear hst; intro a hst
  refine l_off hst rfl rfl rfl (by decide) rfl rfl ?_
  clear hst; intro a hst
  refine l_off hst rfl rfl rfl (by decide) rfl rfl ?_
  clear hst; intro a hst
  refine l_op rfl (r_pick hst rfl rfl rfl ?_)
  clear hst; intro a hst
  refine l_op rfl (r_move hst rfl rfl ?_)
  clear hst; intro a hst
  refine l_off hst rfl rfl rfl (by decide) rfl rfl ?_
  clear hst; intro a hst
  refine l_off hst rfl rfl rfl (by decide) rfl rfl ?_
  clear hst; intro a hst
  refine l_off hst rfl rfl rfl (by decide) rfl rfl ?_
  clear hst; intro a hst
  refine l_off hst rfl rfl rfl (by decide) rfl rfl ?_
  clear hst; intro a hst
  refine l_off hst rfl rfl rfl (by decide) rfl rfl ?_
  clear hst; intro a hst
  refine l_op rfl (r_pick hst rfl rfl rfl ?_)
  clear hst; intro a hst
  refine l_op rfl (r_move hst rfl rfl ?_)
  clear hst; intro a hst
  refine l_off hst rfl rfl rfl (by decide) rfl rfl ?_
  clear hst; intro a hst
  refine l_off hst rfl rfl rfl (by decide) rfl rfl ?_
  clear hst; intro a hst
  refine l_off hst rfl rfl rfl (by decide) rfl rfl ?_
  clear hst; intro a hst
  refine l_off hst rfl rfl rfl (by decide) rfl rfl ?_
  clear hst; intro a hst
  refine l_off hst rfl rfl rfl (by decide) rfl rfl ?_
  clear hst; intro a hst
  refine l_op rfl (r_pick hst rfl rfl rfl ?_)
  clear hst; intro a hst
  refine l_op rfl (r_assign hst rfl rfl ?_)
  clear hst; intro a hst
  refine wpList_nil ?_
  refine then_n ?_
  refine wp_ret ?_
  refine x_ret (rs := [.tmp 4]) hst rfl (.tmp rfl (.nil)) ?_
  exact ⟨_, rfl, by grind⟩

theorem psame_c {w : World} {U : Mk} {k m k' m' : Int} {s s' : ByteArray} {A : Option Addr} {l c : Nat} {A' : Option Addr} {l' c' : Nat} {x y x' y' : Int} (ts us : List ExT) (hA : Sl kE (.slice A l c) ts w U) (hB : Sl kE (.slice A' l' c') us w U) (heq : ∀ t u, t ∈ ts → u ∈ us → EqF Tryz.prog 45 kE [] t u) :
    CallsS Tryz.prog 45 [.agg #[.int .i64 k, .string s, .int .i64 m, .slice A l c, .int .i64 x, .int .i64 y], .agg #[.int .i64 k', .string s', .int .i64 m', .slice A' l' c', .int .i64 x', .int .i64 y']] w U (fun v _ _ => ∃ b : Bool, v = .bool b ∧ (b = true ↔ k = k' ∧ s.toList = s'.toList ∧ m = m' ∧ ts = us)) := by
  refine x_enter (F := fun w U => Sl kE (.slice A l c) ts w U ∧ Sl kE (.slice A' l' c') us w U) (n := 31) Tryz.func45 rfl rfl (by simp) (.cons (d := 0) rfl (.cons (d := 1) rfl (.nil))) (Mono.and (Sl.mono _ _ _) (Sl.mono _ _ _)) (⟨hA, hB⟩) ?_
  intro a hst
  refine wp_seq ?_
  refine wp_region_lit ?_
  refine l_op rfl (r_box hst rfl rfl rfl ?_)
  clear hst; intro a w g1 hst
  refine l_op rfl (r_box hst rfl rfl rfl ?_)
  clear hst; intro a w g2 hst
  refine l_op rfl (r_assign hst rfl rfl ?_)
  clear hst; intro a hst
  refine wpList_nil ?_
  refine then_n ?_
  refine wp_seq ?_
  refine wp_region_lit ?_
  refine l_op rfl (r_fieldAddr hst rfl Tf58_0 rfl ?_)
  clear hst; intro a hst
  refine l_op rfl (r_loads hst rfl Ts3 (.tail _ (.head _)) rfl rfl ?_)
  clear hst; intro a hst
  refine l_op rfl (r_fieldAddr hst rfl Tf58_0 rfl ?_)
  clear hst; intro a hst
  refine l_op rfl (r_loads hst rfl Ts3 (.head _) rfl rfl ?_)
  clear hst; intro a hst
  refine l_op rfl (r_bin hst rfl rfl rfl rfl rfl ?_)
  clear hst; intro a hst
  refine l_op rfl (r_move hst rfl rfl ?_)
  clear hst; intro a hst
  refine hst.split (t := 10) rfl (fun hc1 hst => ?_) (fun hc1 hst => ?_)
  · try simp only [n1, n2, n3, n4, n5, n6, n7, n8, n9, na, nb] at hc1
    refine l_on hst rfl rfl rfl (r_fieldAddr hst rfl Tf58_1 rfl ?_)
    clear hst; intro a hst
    refine l_on hst rfl rfl rfl (r_loads hst rfl Ts9 (.tail _ (.head _)) rfl rfl ?_)
    clear hst; intro a hst
    refine l_on hst rfl rfl rfl (r_fieldAddr hst rfl Tf58_1 rfl ?_)
    clear hst; intro a hst
    refine l_on hst rfl rfl rfl (r_loads hst rfl Ts9 (.head _) rfl rfl ?_)
    clear hst; intro a hst
    refine l_on hst rfl rfl rfl (r_bin hst rfl rfl rfl rfl rfl ?_)
    clear hst; intro a hst
    refine l_op rfl (r_pick hst rfl rfl rfl ?_)
    clear hst; intro a hst
    refine l_op rfl (r_move hst rfl rfl ?_)
    clear hst; intro a hst
    refine hst.split (t := 17) rfl (fun hc2 hst => ?_) (fun hc2 hst => ?_)
    · try simp only [n1, n2, n3, n4, n5, n6, n7, n8, n9, na, nb] at hc2
      refine l_on hst rfl rfl rfl (r_fieldAddr hst rfl Tf58_2 rfl ?_)
      clear hst; intro a hst
      refine l_on hst rfl rfl rfl (r_loads hst rfl Ts3 (.tail _ (.head _)) rfl rfl ?_)
      clear hst; intro a hst
      refine l_on hst rfl rfl rfl (r_fieldAddr hst rfl Tf58_2 rfl ?_)
      clear hst; intro a hst
      refine l_on hst rfl rfl rfl (r_loads hst rfl Ts3 (.head _) rfl rfl ?_)
      clear hst; intro a hst
      refine l_on hst rfl rfl rfl (r_bin hst rfl rfl rfl rfl rfl ?_)
      clear hst; intro a hst
      refine l_op rfl (r_pick hst rfl rfl rfl ?_)
      clear hst; intro a hst
      refine l_op rfl (r_move hst rfl rfl ?_)
      clear hst; intro a hst
      refine hst.split (t := 24) rfl (fun hc3 hst => ?_) (fun hc3 hst => ?_)
      · try simp only [n1, n2, n3, n4, n5, n6, n7, n8, n9, na, nb] at hc3
        refine l_on hst rfl rfl rfl (r_fieldAddr hst rfl Tf58_3 rfl ?_)
        clear hst; intro a hst
        refine l_on hst rfl rfl rfl (r_loads hst rfl Ts56 (.tail _ (.head _)) rfl rfl ?_)
        clear hst; intro a hst
        refine l_on hst rfl rfl rfl (r_fieldAddr hst rfl Tf58_3 rfl ?_)
        clear hst; intro a hst
        refine l_on hst rfl rfl rfl (r_loads hst rfl Ts56 (.head _) rfl rfl ?_)
        clear hst; intro a hst
        refine l_on hst rfl rfl rfl (r_call (xs := [(Operand.tmp 26), (Operand.tmp 28), (Operand.func 45)]) hst rfl Ten44 (eqfE_c _ _ 45 Ten45 hst.fact.1 hst.fact.2 heq) rfl ?_)
        clear hst; rintro a _ w U ⟨be, rfl, hbe⟩ hst
        refine l_op rfl (r_pick hst rfl rfl rfl ?_)
        clear hst; intro a hst
        refine l_op rfl (r_assign hst rfl rfl ?_)
        clear hst; intro a hst
        refine wpList_nil ?_
        refine then_n ?_
        refine wp_ret ?_
        refine x_ret (rs := [.tmp 4]) hst rfl (.tmp rfl (.nil)) ?_
        exact ⟨_, rfl, by grind⟩
      try simp only [n1, n2, n3, n4, n5, n6, n7, n8, n9, na, nb] at hc3
      refine l_off hst rfl rfl rfl (by decide) rfl rfl ?_
      clear hst; intro a hst
      refine l_off hst rfl rfl rfl (by decide) rfl rfl ?_
      clear hst; intro a hst
      refine l_off hst rfl rfl rfl (by decide) rfl rfl ?_
      clear hst; intro a hst
      refine l_off hst rfl rfl rfl (by decide) rfl rfl ?_
      clear hst; intro a hst
      refine l_off hst rfl rfl rfl (by decide) rfl rfl ?_
      clear hst; intro a hst
      refine l_op rfl (r_pick hst rfl rfl rfl ?_)
      clear hst; intro a hst
      refine l_op rfl (r_assign hst rfl rfl ?_)
      clear hst; intro a hst
      refine wpList_nil ?_
      refine then_n ?_
      refine wp_ret ?_
      refine x_ret (rs := [.tmp 4]) hst rfl (.tmp rfl (.nil)) ?_
      exact ⟨_, rfl, by grind⟩
    try simp only [n1, n2, n3, n4, n5, n6, n7, n8, n9, na, nb] at hc2
    refine l_off hst rfl rfl rfl (by decide) rfl rfl ?_
    clear hst; intro a hst
    refine l_off hst rfl rfl rfl (by decide) rfl rfl ?_
    clear hst; intro a hst
    refine l_off hst rfl rfl rfl (by decide) rfl rfl ?_
    clear hst; intro a hst
    refine l_off hst rfl rfl rfl (by decide) rfl rfl ?_
    clear hst; intro a hst
    refine l_off hst rfl rfl rfl (by decide) rfl rfl ?_
    clear hst; intro a hst
    refine l_op rfl (r_pick hst rfl rfl rfl ?_)
    clear hst; intro a hst
    refine l_op rfl (r_move hst rfl rfl ?_)
    clear hst; intro a hst
    refine l_off hst rfl rfl rfl (by decide) rfl rfl ?_
    clear hst; intro a hst
    refine l_off hst rfl rfl rfl (by decide) rfl rfl ?_
    clear hst; intro a hst
    refine l_off hst rfl rfl rfl (by decide) rfl rfl ?_
    clear hst; intro a hst
    refine l_off hst rfl rfl rfl (by decide) rfl rfl ?_
    clear hst; intro a hst
    refine l_off hst rfl rfl rfl (by decide) rfl rfl ?_
    clear hst; intro a hst
    refine l_op rfl (r_pick hst rfl rfl rfl ?_)
    clear hst; intro a hst
    refine l_op rfl (r_assign hst rfl rfl ?_)
    clear hst; intro a hst
    refine wpList_nil ?_
    refine then_n ?_
    refine wp_ret ?_
    refine x_ret (rs := [.tmp 4]) hst rfl (.tmp rfl (.nil)) ?_
    exact ⟨_, rfl, by grind⟩
  try simp only [n1, n2, n3, n4, n5, n6, n7, n8, n9, na, nb] at hc1
  refine l_off hst rfl rfl rfl (by decide) rfl rfl ?_
  clear hst; intro a hst
  refine l_off hst rfl rfl rfl (by decide) rfl rfl ?_
  clear hst; intro a hst
  refine l_off hst rfl rfl rfl (by decide) rfl rfl ?_
  clear hst; intro a hst
  refine l_off hst rfl rfl rfl (by decide) rfl rfl ?_
  clear hst; intro a hst
  refine l_off hst rfl rfl rfl (by decide) rfl rfl ?_
  clear hst; intro a hst
  refine l_op rfl (r_pick hst rfl rfl rfl ?_)
  clear hst; intro a hst
  refine l_op rfl (r_move hst rfl rfl ?_)
  clear hst; intro a hst
  refine l_off hst rfl rfl rfl (by decide) rfl rfl ?_
  clear hst; intro a hst
  refine l_off hst rfl rfl rfl (by decide) rfl rfl ?_
  clear hst; intro a hst
  refine l_off hst rfl rfl rfl (by decide) rfl rfl ?_
  clear hst; intro a hst
  refine l_off hst rfl rfl rfl (by decide) rfl rfl ?_
  clear hst; intro a hst
  refine l_off hst rfl rfl rfl (by decide) rfl rfl ?_
  clear hst; intro a hst
  refine l_op rfl (r_pick hst rfl rfl rfl ?_)
  clear hst; intro a hst
  refine l_op rfl (r_move hst rfl rfl ?_)
  clear hst; intro a hst
  refine l_off hst rfl rfl rfl (by decide) rfl rfl ?_
  clear hst; intro a hst
  refine l_off hst rfl rfl rfl (by decide) rfl rfl ?_
  clear hst; intro a hst
  refine l_off hst rfl rfl rfl (by decide) rfl rfl ?_
  clear hst; intro a hst
  refine l_off hst rfl rfl rfl (by decide) rfl rfl ?_
  clear hst; intro a hst
  refine l_off hst rfl rfl rfl (by decide) rfl rfl ?_
  clear hst; intro a hst
  refine l_op rfl (r_pick hst rfl rfl rfl ?_)
  clear hst; intro a hst
  refine l_op rfl (r_assign hst rfl rfl ?_)
  clear hst; intro a hst
  refine wpList_nil ?_
  refine then_n ?_
  refine wp_ret ?_
  refine x_ret (rs := [.tmp 4]) hst rfl (.tmp rfl (.nil)) ?_
  exact ⟨_, rfl, by grind⟩

theorem same46 : ∀ (t u : TyT), EqF Tryz.prog 46 kT [] t u := by
  intro t
  induction hn : SizeOf.sizeOf t using Nat.strongRecOn generalizing t with
  | _ n ih =>
    intro u w U cs ds hc hd
    obtain ⟨k, s, m, v, ts, rfl, rfl, h⟩ := TRep.open_ hc
    obtain ⟨k', s', m', v', us, rfl, rfl, h'⟩ := TRep.open_ hd
    obtain ⟨A, l, c, rfl⟩ := h.slice
    obtain ⟨A', l', c', rfl⟩ := h'.slice
    refine (sametype_c ts us h h' (fun t u ht hu => ih (SizeOf.sizeOf t) ?_ t rfl u)).mono ?_
    · have := List.sizeOf_lt_of_mem ht
      subst hn
      simp only [TyT.mk.sizeOf_spec]
      omega
    · rintro v w' U' ⟨b, rfl, hb⟩
      exact ⟨b, rfl, by rw [hb, TyT.mk.injEq]⟩

theorem same22 : ∀ (t u : TyT), EqF Tryz.prog 22 kT [] t u := by
  intro t
  induction hn : SizeOf.sizeOf t using Nat.strongRecOn generalizing t with
  | _ n ih =>
    intro u w U cs ds hc hd
    obtain ⟨k, s, m, v, ts, rfl, rfl, h⟩ := TRep.open_ hc
    obtain ⟨k', s', m', v', us, rfl, rfl, h'⟩ := TRep.open_ hd
    obtain ⟨A, l, c, rfl⟩ := h.slice
    obtain ⟨A', l', c', rfl⟩ := h'.slice
    refine (psametype_c ts us h h' (fun t u ht hu => ih (SizeOf.sizeOf t) ?_ t rfl u)).mono ?_
    · have := List.sizeOf_lt_of_mem ht
      subst hn
      simp only [TyT.mk.sizeOf_spec]
      omega
    · rintro v w' U' ⟨b, rfl, hb⟩
      exact ⟨b, rfl, by rw [hb, TyT.mk.injEq]⟩

theorem same29 : ∀ (t u : ExT), EqF Tryz.prog 29 kE [.bool false] t u := by
  intro t
  induction hn : SizeOf.sizeOf t using Nat.strongRecOn generalizing t with
  | _ n ih =>
    intro u w U cs ds hc hd
    obtain ⟨k, s, m, v, x, y, ts, rfl, rfl, h⟩ := ERep.open_ hc
    obtain ⟨k', s', m', v', x', y', us, rfl, rfl, h'⟩ := ERep.open_ hd
    obtain ⟨A, l, c, rfl⟩ := h.slice
    obtain ⟨A', l', c', rfl⟩ := h'.slice
    refine (sameexpr_c ts us h h' (fun t u ht hu => ih (SizeOf.sizeOf t) ?_ t rfl u)).mono ?_
    · have := List.sizeOf_lt_of_mem ht
      subst hn
      simp only [ExT.mk.sizeOf_spec]
      omega
    · rintro v w' U' ⟨b, rfl, hb⟩
      exact ⟨b, rfl, by rw [hb, ExT.mk.injEq]⟩

theorem same45 : ∀ (t u : ExT), EqF Tryz.prog 45 kE [] t u := by
  intro t
  induction hn : SizeOf.sizeOf t using Nat.strongRecOn generalizing t with
  | _ n ih =>
    intro u w U cs ds hc hd
    obtain ⟨k, s, m, v, x, y, ts, rfl, rfl, h⟩ := ERep.open_ hc
    obtain ⟨k', s', m', v', x', y', us, rfl, rfl, h'⟩ := ERep.open_ hd
    obtain ⟨A, l, c, rfl⟩ := h.slice
    obtain ⟨A', l', c', rfl⟩ := h'.slice
    refine (psame_c ts us h h' (fun t u ht hu => ih (SizeOf.sizeOf t) ?_ t rfl u)).mono ?_
    · have := List.sizeOf_lt_of_mem ht
      subst hn
      simp only [ExT.mk.sizeOf_spec]
      omega
    · rintro v w' U' ⟨b, rfl, hb⟩
      exact ⟨b, rfl, by rw [hb, ExT.mk.injEq]⟩
end Go.Proofs.YtjnjkbmegfkiiaaGreat
