/- A module with one thing turned. -/
import Derived.Test.YtjnjkbmegfkiiaaGreatT
import Derived.Test.YtjnjkbmegfkiiaaGreatX11
namespace Go.Proofs.YtjnjkbmegfkiiaaGreat
open Go.RowKit
set_option maxRecDepth 10000
set_option linter.unusedVariables false
set_option linter.unusedSimpArgs false
attribute [local irreducible] Oper.wp Code.wp wpList wpAny wpOp Calls CallsS
def InvTurn (w0 : World) (U0 : Mk) (k : Int) (s : ByteArray) (ts : List DaT) (ps : List RuT) (l j : Nat) (a : Act) (w : World) : Prop :=
  ∃ (U : Mk) (g6 g7 : Nat) (AD : Option Addr) (cD : Nat) (AR : Option Addr) (cR : Nat) (xsD xsR : List Value) (HD HR : List Blk),
    Sta w0 U0 171 [(1, .int .i64 k), (2, .string s), (6, .pointer (some ⟨g6, 0, none⟩)), (7, .pointer (some ⟨g7, 0, none⟩))] (⟨g7, 26, [.slice AD l cD, .slice AR j cR]⟩ :: ⟨g6, 26, [.slice none 0 0, .slice none 0 0]⟩ :: (HD ++ HR)) [] (fun w U => Flat kD xsD ts w U ∧ Flat kR xsR ps w U) a w U ∧
    Arr 42 5 (.slice AD l cD) l xsD HD ∧ Arr 60 11 (.slice AR j cR) j xsR HR
def InvTurn2 (w0 : World) (U0 : Mk) (s : ByteArray) (ts : List DaT) (ps : List RuT) (l j : Nat) (a : Act) (w : World) : Prop :=
  ∃ k, 0 ≤ k ∧ k ≤ 9223372036854775807 ∧ InvTurn w0 U0 k s ts ps l j a w

set_option maxHeartbeats 4000000 in
theorem turned_c {w0 : World} {U0 : Mk} {A : Option Addr} {l c : Nat} {B : Option Addr} {j d : Nat} (k : Int) (s : ByteArray) (ts : List DaT) (ps : List RuT) (hF : Sl kD (.slice A l c) ts w0 U0 ∧ Sl kR (.slice B j d) ps w0 U0) (hlb : l ≤ 100000000) (hjb : j ≤ 100000000) (hk1 : -9223372036854775808 ≤ k) (hk2 : k ≤ 9223372036854775807) :
    CallsS Tryz.prog 6 [.agg #[.slice A l c, .slice B j d], .int .i64 k, .string s] w0 U0 (fun v w' U' => ∃ v1 v2 ts' ps', v = .agg #[v1, v2] ∧ Sl (kDn 100000001) v1 ts' w' U' ∧ Sl (kRn 100000001) v2 ps' w' U') := by
  refine x_enter (F := fun w U => Sl kD (.slice A l c) ts w U ∧ Sl kR (.slice B j d) ps w U) (n := 171) Tryz.func6 rfl rfl (by simp) (.cons (d := 0) rfl (.cons (d := 1) rfl (.cons (d := 2) rfl (.nil)))) (Mono.and (Sl.mono _ _ _) (Sl.mono _ _ _)) (hF) ?_
  intro a hst
  refine wp_seq ?_
  refine wp_region_lit ?_
  refine l_op rfl (r_box hst rfl rfl rfl ?_)
  clear hst; intro a w g1 hst
  refine l_op rfl (r_alloc hst Tz26 rfl ?_)
  clear hst; intro a w g2 hst
  have hl1 := hst.fact.1.len
  have hl3 := hst.fact.2.len
  refine wpList_nil ?_
  refine then_n ?_
  refine wp_seq ?_
  refine x_cut (InvTurn w0 U0 k s ts ps l j) (fun a w hM => ?_) ?_
  · clear hst
    obtain ⟨U, g6, g7, AD, cD, AR, cR, xsD, xsR, HD, HR, hst, hAD, hAR⟩ := hM
    refine then_n ?_
    refine wp_seq ?_
    refine x_cut (InvTurn2 w0 U0 s ts ps l j) (fun a w hM => ?_) ?_
    · clear hst
      obtain ⟨k, hk1, hk2, U, g6, g7, AD, cD, AR, cR, xsD, xsR, HD, HR, hst, hAD, hAR⟩ := hM
      refine then_n ?_
      refine wp_seq ?_
      refine x_cut2 (InvTurn2 w0 U0 s ts ps l j) (fun a w hM => ?_) ?_
      · clear hst
        obtain ⟨k, hk1, hk2, U, g6, g7, AD, cD, AR, cR, xsD, xsR, HD, HR, hst, hAD, hAR⟩ := hM
        refine then_n ?_
        refine wp_seq ?_
        refine wp_seq ?_
        refine wp_region_lit ?_
        refine l_op rfl (r_fieldAddr hst rfl Tf26_0 rfl ?_)
        clear hst; intro a hst
        refine l_op rfl (r_loads hst rfl Ts23 (.head _) rfl rfl ?_)
        clear hst; intro a hst
        refine l_op rfl (r_lensl hst rfl Tu23 rfl ?_)
        clear hst; intro a hst
        refine l_op rfl (r_assign hst rfl rfl ?_)
        clear hst; intro a hst
        refine wpList_nil ?_
        refine then_n ?_
        refine wp_seq ?_
        refine wp_region_lit ?_
        refine l_op rfl (r_move hst rfl rfl ?_)
        clear hst; intro a hst
        refine l_op rfl (r_bin hst rfl rfl rfl rfl rfl ?_)
        clear hst; intro a hst
        refine wpList_nil ?_
        refine then_n ?_
        refine x_cond hst rfl (fun hc1 => ?_) (fun hc1 => ?_)
        · try simp only [n1, n2, n3, n4, n5, n6, n7, n8, n9, na, nb] at hc1
          refine wp_seq ?_
          obtain ⟨U, hextR, hcoR, hst⟩ := hst.settle_arr hAR (H' := ⟨g7, 26, _⟩ :: ⟨g6, 26, _⟩ :: HD) (fun b hb => by subst hb; exact .tail (.tail (rem_last b HD))) (fun hb => by subst hb; rw [List.append_nil])
          obtain ⟨_, _, hER, hcR⟩ := hAR.len
          simp only [Value.slice.injEq, true_and] at hER
          have hslR := Sl.of_flat hcoR hst.fact.2 hl3.1 (by omega)
          have hst := hst.newFact (Mono.and (Sl.mono kR _ _) (Flat.mono kD _ _)) ⟨hslR, hst.fact.1⟩
          obtain ⟨hxD, hD0 | ⟨hpos, gD, capD, junk, hvD, hcapD, rfl⟩⟩ := hAD
          · omega
          simp only [Value.slice.injEq] at hvD
          obtain ⟨rfl, -, rfl⟩ := hvD
          refine wp_region_lit ?_
          refine l_op rfl (r_move hst rfl rfl ?_)
          clear hst; intro a hst
          refine l_op rfl (r_quo2 hst rfl rfl (by omega) (by omega) (by omega) rfl ?_)
          clear hst; intro a z107 hz107a hz107b hst
          refine l_op rfl (r_move hst rfl rfl ?_)
          clear hst; intro a hst
          refine l_op rfl (r_rem2 hst rfl rfl (by omega) (by omega) rfl ?_)
          clear hst; intro a z109 hz109a hz109b hst
          refine l_op rfl (r_assign hst rfl rfl ?_)
          clear hst; intro a hst
          refine wpList_nil ?_
          refine then_n ?_
          refine wp_seq ?_
          refine wp_region_lit ?_
          refine l_op rfl (r_move hst rfl rfl ?_)
          clear hst; intro a hst
          refine l_op rfl (r_quo2 hst rfl rfl (by omega) (by omega) (by omega) rfl ?_)
          clear hst; intro a z111 hz111a hz111b hst
          refine l_op rfl (r_move hst rfl rfl ?_)
          clear hst; intro a hst
          refine l_op rfl (r_quo2 hst rfl rfl (by omega) (by omega) (by omega) rfl ?_)
          clear hst; intro a z113 hz113a hz113b hst
          refine l_op rfl (r_rem2 hst rfl rfl (by omega) (by omega) rfl ?_)
          clear hst; intro a z114 hz114a hz114b hst
          refine wpList_nil ?_
          refine then_n ?_
          refine wp_block ?_
          refine wp_seq ?_
          refine wp_region_lit ?_
          refine l_op rfl (r_bin hst rfl rfl rfl rfl rfl ?_)
          clear hst; intro a hst
          refine l_op rfl (r_assign hst rfl rfl ?_)
          clear hst; intro a hst
          refine wpList_nil ?_
          refine then_n ?_
          refine x_cond hst rfl (fun hc2 => ?_) (fun hc2 => ?_)
          · try simp only [n1, n2, n3, n4, n5, n6, n7, n8, n9, na, nb] at hc2
            refine wp_region_lit ?_
            refine l_op rfl (r_fieldAddr hst rfl Tf26_0 rfl ?_)
            clear hst; intro a hst
            refine l_op rfl (r_loads hst rfl Ts23 (.head _) rfl rfl ?_)
            clear hst; intro a hst
            refine l_op rfl (r_move hst rfl rfl ?_)
            clear hst; intro a hst
            refine l_op rfl (r_move hst rfl rfl ?_)
            clear hst; intro a hst
            refine l_op rfl (r_indexAddr hst rfl rfl Tu23 Tsz42 (hz109a) (by omega) rfl ?_)
            clear hst; intro a hst
            refine l_op rfl (r_fieldAddr hst rfl Tf42_0 rfl ?_)
            clear hst; intro a hst
            refine l_op rfl (r_store hst rfl rfl rfl Tsz9 rfl (.tail (.tail (.head (spl_arr (i := z109.toNat) (sz := 5) (f := 0) (by omega) (by simp only [List.length_cons, List.length_nil]; omega))))) ?_)
            clear hst; intro w hst
            refine wpList_nil ?_
            refine inb_n ?_
            refine then_n ?_
            refine wp_seq ?_
            obtain ⟨us, hfu, hlu⟩ := data_name hst.fact.2 (i := z109.toNat) (by omega) s
            obtain ⟨U, hext9, hco9, hst⟩ := hst.settle_ (.tail (.tail (.head)))
            have hs9 := Sl.of_flat (hco9 l cD).pre (Flat.mono _ _ _ _ _ _ _ hext9 hfu) (hlu.trans hl1.1) hcapD
            have hst := hst.newFact (Mono.and (Sl.mono (kDn 100000001) _ _) (Sl.mono (kRn 100000001) _ _)) ⟨hs9, hst.fact.1.lift rfl (upR (by omega))⟩
            refine wp_region_lit ?_
            refine l_op rfl (r_loada hst rfl Ta26 (.head _) (.cons rfl (.cons rfl (.nil))) rfl rfl ?_)
            clear hst; intro a hst
            refine l_op rfl (r_store hst rfl rfl rfl Tsz26 rfl (.tail (.head (.here (.here (.nil (Nat.zero_le _)))))) ?_)
            clear hst; intro w hst
            refine wpList_nil ?_
            refine then_n ?_
            refine wp_ret ?_
            refine x_ret (rs := [.cell 6 26]) hst rfl (.agg rfl Ta26 (.tail _ (.head _)) rfl (.nil)) ?_
            exact ⟨_, _, _, _, rfl, hst.fact.1, hst.fact.2⟩
          try simp only [n1, n2, n3, n4, n5, n6, n7, n8, n9, na, nb] at hc2
          refine wp_seq ?_
          refine wp_region_lit ?_
          refine l_op rfl (r_bin hst rfl rfl rfl rfl rfl ?_)
          clear hst; intro a hst
          refine l_op rfl (r_assign hst rfl rfl ?_)
          clear hst; intro a hst
          refine wpList_nil ?_
          refine then_n ?_
          refine x_cond hst rfl (fun hc3 => ?_) (fun hc3 => ?_)
          · try simp only [n1, n2, n3, n4, n5, n6, n7, n8, n9, na, nb] at hc3
            obtain ⟨tP, AP, lP, cP, _, _, _, htP, hnP, hvP, hlP, _, _, _⟩ := data_at hst.fact.2 (i := z109.toNat) (by omega)
            obtain ⟨nsP, hcP, hfP⟩ := hvP.to_flat
            have hkP := hvP.len
            have hxP : nsP.length = lP * 1 := by have := hfP.1; rw [hkP.1] at this; exact this
            have h1P := hfP.one_cells (fun _ _ _ _ => oneS)
            have hst := (hst.row_nil 9 (sz := 1) (by decide)).newFact (Mono.and (Mono.and (Sl.mono kR _ _) (Flat.mono kD _ _)) (Mono.and (Cont.mono _ _) (Flat.mono kS _ _))) ⟨hst.fact, hcP, hfP⟩
            refine x_drawf (by kernel_rfl) hst (.cons_cons _ (.cons _ (.cons _ (List.nil_sublist _)))) ?_
            clear hst; intro w hS hst
            refine f_take (i := 0) hS hst (.cons_cons _ (.cons _ (.cons _ (List.nil_sublist _)))) rfl rfl rfl rfl (by kernel_rfl) (by kernel_rfl) (by kernel_rfl) (fun _ _ _ h => h) (fun _ _ _ _ hst => q_fieldAddr hst rfl Tf26_0) ?_
            clear hst; intro a hst
            refine f_take (i := 1) hS hst (.cons_cons _ (.cons _ (.cons _ (List.nil_sublist _)))) rfl rfl rfl rfl (by kernel_rfl) (by kernel_rfl) (by kernel_rfl) (fun _ _ _ h => h) (fun _ _ _ _ hst => q_loads hst rfl Ts23 (.head _) rfl) ?_
            clear hst; intro a hst
            refine f_take (i := 2) hS hst (.cons_cons _ (.cons _ (.cons _ (List.nil_sublist _)))) rfl rfl rfl rfl (by kernel_rfl) (by kernel_rfl) (by kernel_rfl) (fun _ _ _ h => h) (fun _ _ _ _ hst => q_move hst rfl) ?_
            clear hst; intro a hst
            refine f_take (i := 3) hS hst (.cons_cons _ (.cons _ (.cons _ (List.nil_sublist _)))) rfl rfl rfl rfl (by kernel_rfl) (by kernel_rfl) (by kernel_rfl) (fun _ _ _ h => h) (fun _ _ _ _ hst => q_fieldAddr hst rfl Tf26_0) ?_
            clear hst; intro a hst
            refine f_take (i := 4) hS hst (.cons_cons _ (.cons _ (.cons _ (List.nil_sublist _)))) rfl rfl rfl rfl (by kernel_rfl) (by kernel_rfl) (by kernel_rfl) (fun _ _ _ h => h) (fun _ _ _ _ hst => q_loads hst rfl Ts23 (.head _) rfl) ?_
            clear hst; intro a hst
            refine f_take (i := 5) hS hst (.cons_cons _ (.cons _ (.cons _ (List.nil_sublist _)))) rfl rfl rfl rfl (by kernel_rfl) (by kernel_rfl) (by kernel_rfl) (fun _ _ _ h => h) (fun _ _ _ _ hst => q_move hst rfl) ?_
            clear hst; intro a hst
            refine f_take (i := 6) hS hst (.cons_cons _ (.cons _ (.cons _ (List.nil_sublist _)))) rfl rfl rfl rfl (by kernel_rfl) (by kernel_rfl) (by kernel_rfl) (fun _ _ _ h => h) (fun _ _ _ _ hst => q_indexAddr hst rfl rfl Tu23 Tsz42 (hz109a) (by omega)) ?_
            clear hst; intro a hst
            refine f_take (i := 7) hS hst (.cons_cons _ (.cons _ (.cons _ (List.nil_sublist _)))) rfl rfl rfl rfl (by kernel_rfl) (by kernel_rfl) (by kernel_rfl) (fun _ _ _ h => h) (fun _ _ _ _ hst => q_fieldAddr hst rfl Tf42_1) ?_
            clear hst; intro a hst
            refine f_take (i := 10) hS hst (.cons_cons _ (.cons _ (.cons _ (List.nil_sublist _)))) rfl rfl rfl rfl (by kernel_rfl) (by kernel_rfl) (by kernel_rfl) (fun _ _ _ h => h) (fun _ _ _ _ hst => q_move hst rfl) ?_
            clear hst; intro a hst
            refine f_two (i := 8) (j := 11) (by kernel_rfl) rfl rfl rfl rfl (r_loads hst rfl Ts39 (.tail _ (.tail _ (.head _))) (arr_nth (i := z109.toNat) (sz := 5) (f := 1) (by omega) hnP) rfl ?_) (r_slice1 hst Tu39 Tsz9 Tz9 rfl (by decide) (by decide) rfl rfl rfl rfl ?_)
            · clear hst; intro a hst
              refine ⟨hst.kept (.cons_cons _ (.cons _ (.cons _ (List.nil_sublist _)))), ?_⟩
              refine f_two (i := 9) (j := 11) (by kernel_rfl) rfl rfl rfl rfl (r_appendS hst rfl rfl Tet39 hst.fact.2.2.1 hxP h1P (Cont.nil _ _ _) rfl (by omega) (by omega) rfl ?_) (r_slice1 hst Tu39 Tsz9 Tz9 rfl (by decide) (by decide) rfl rfl rfl rfl ?_)
              · clear hst; intro a v w U hext hcont hv hst
                obtain ⟨A5, c5, rfl, hc5_⟩ := hv
                have hst := hst.newFact (Mono.and (Ext.monoF _ _) (Mono.and (Cont.mono _ _) hS.mono)) ⟨hst.fact.1, hcont, hst.fact.2⟩
                refine ⟨hst.kept (.cons_cons _ (.cons _ (.cons _ (List.nil_sublist _)))), ?_⟩
                refine f_one (i := 11) (by kernel_rfl) rfl rfl (r_slice1 hst Tu39 Tsz9 Tz9 rfl (by decide) (by decide) rfl rfl rfl rfl ?_)
                clear hst; intro a w g11 hst
                refine ⟨hst.kept (.cons _ (.cons_cons _ (.cons _ (.cons _ (List.nil_sublist _))))), ?_⟩
                refine f_one (i := 12) (by kernel_rfl) rfl rfl (r_append hst rfl rfl Tet39 (.head _) rfl (by decide) rfl hst.fact.2.1 (by simp [hxP]) (by omega) (by omega) rfl ?_)
                clear hst; intro a v w U hext hcont hv hst
                obtain ⟨A6, c6, rfl, hc6_⟩ := hv
                have hst := hst.newFact (Mono.and (Ext.monoF _ _) (Mono.and (Cont.mono _ _) (Mono.and (Cont.mono _ _) hS.mono))) ⟨hst.fact.1, hcont, hst.fact.2⟩
                refine ⟨hst.kept (.cons _ (.cons_cons _ (.cons _ (.cons _ (List.nil_sublist _))))), ?_⟩
                refine f_take (i := 13) hS hst (.cons _ (.cons_cons _ (.cons _ (.cons _ (List.nil_sublist _))))) rfl rfl rfl rfl (by kernel_rfl) (by kernel_rfl) (by kernel_rfl) (fun _ _ _ h => h) (fun _ _ _ _ hst => q_indexAddr hst rfl rfl Tu23 Tsz42 (hz109a) (by omega)) ?_
                clear hst; intro a hst
                refine f_take (i := 14) hS hst (.cons _ (.cons_cons _ (.cons _ (.cons _ (List.nil_sublist _))))) rfl rfl rfl rfl (by kernel_rfl) (by kernel_rfl) (by kernel_rfl) (fun _ _ _ h => h) (fun _ _ _ _ hst => q_fieldAddr hst rfl Tf42_1) ?_
                clear hst; intro a hst
                refine f_one (i := 15) (by kernel_rfl) rfl rfl (r_store hst rfl rfl rfl Tsz39 rfl (.tail (.tail (.tail (.head (spl_arr (i := z109.toNat) (sz := 5) (f := 1) (by omega) (by simp only [List.length_cons, List.length_nil]; omega)))))) ?_)
                clear hst; intro w hst
                refine ⟨hst.kept (.cons _ (.cons_cons _ (.cons _ (.cons _ (List.nil_sublist _))))), ?_⟩
                refine f_done (by kernel_rfl) ?_
                have hsP := Sl.of_flat hst.fact.2.1 ((Flat.append (Flat.nil kS _ _) hst.fact.2.2.2.2.2).snoc (⟨s, rfl, rfl⟩)) (by simp [hkP.1]) (by omega) (by omega)
                have hst := hst.newFact (Mono.and (Sl.mono kS _ _) (Mono.and (Sl.mono kR _ _) (Flat.mono _ _ _))) ⟨hsP, hst.fact.2.2.2.1⟩
                refine inb_n ?_
                refine then_n ?_
                refine wp_seq ?_
                obtain ⟨us, hfu, hlu⟩ := data_vars hst.fact.2.2 (i := z109.toNat) (by omega) hst.fact.1 (by simp; omega)
                obtain ⟨U, hext9, hco9, hst⟩ := hst.settle_ (.tail (.tail (.tail (.head))))
                have hs9 := Sl.of_flat (hco9 l cD).pre (Flat.mono _ _ _ _ _ _ _ hext9 hfu) (hlu.trans hl1.1) hcapD
                have hst := hst.newFact (Mono.and (Sl.mono (kDn 100000001) _ _) (Sl.mono (kRn 100000001) _ _)) ⟨hs9, hst.fact.2.1.lift rfl (upR (by omega))⟩
                refine wp_region_lit ?_
                refine l_op rfl (r_loada hst rfl Ta26 (.tail _ (.head _)) (.cons rfl (.cons rfl (.nil))) rfl rfl ?_)
                clear hst; intro a hst
                refine l_op rfl (r_store hst rfl rfl rfl Tsz26 rfl (.tail (.tail (.head (.here (.here (.nil (Nat.zero_le _))))))) ?_)
                clear hst; intro w hst
                refine wpList_nil ?_
                refine then_n ?_
                refine wp_ret ?_
                refine x_ret (rs := [.cell 6 26]) hst rfl (.agg rfl Ta26 (.tail _ (.tail _ (.head _))) rfl (.nil)) ?_
                exact ⟨_, _, _, _, rfl, hst.fact.1, hst.fact.2⟩
              clear hst; intro a w g11 hst
              refine ⟨hst.kept (.cons _ (.cons_cons _ (.cons _ (.cons _ (List.nil_sublist _))))), ?_⟩
              refine f_one (i := 9) (by kernel_rfl) rfl rfl (r_appendS hst rfl rfl Tet39 hst.fact.2.2.1 hxP h1P (Cont.nil _ _ _) rfl (by omega) (by omega) rfl ?_)
              clear hst; intro a v w U hext hcont hv hst
              obtain ⟨A5, c5, rfl, hc5_⟩ := hv
              have hst := hst.newFact (Mono.and (Ext.monoF _ _) (Mono.and (Cont.mono _ _) hS.mono)) ⟨hst.fact.1, hcont, hst.fact.2⟩
              refine ⟨hst.kept (.cons _ (.cons_cons _ (.cons _ (.cons _ (List.nil_sublist _))))), ?_⟩
              refine f_one (i := 12) (by kernel_rfl) rfl rfl (r_append hst rfl rfl Tet39 (.head _) rfl (by decide) rfl hst.fact.2.1 (by simp [hxP]) (by omega) (by omega) rfl ?_)
              clear hst; intro a v w U hext hcont hv hst
              obtain ⟨A6, c6, rfl, hc6_⟩ := hv
              have hst := hst.newFact (Mono.and (Ext.monoF _ _) (Mono.and (Cont.mono _ _) (Mono.and (Cont.mono _ _) hS.mono))) ⟨hst.fact.1, hcont, hst.fact.2⟩
              refine ⟨hst.kept (.cons _ (.cons_cons _ (.cons _ (.cons _ (List.nil_sublist _))))), ?_⟩
              refine f_take (i := 13) hS hst (.cons _ (.cons_cons _ (.cons _ (.cons _ (List.nil_sublist _))))) rfl rfl rfl rfl (by kernel_rfl) (by kernel_rfl) (by kernel_rfl) (fun _ _ _ h => h) (fun _ _ _ _ hst => q_indexAddr hst rfl rfl Tu23 Tsz42 (hz109a) (by omega)) ?_
              clear hst; intro a hst
              refine f_take (i := 14) hS hst (.cons _ (.cons_cons _ (.cons _ (.cons _ (List.nil_sublist _))))) rfl rfl rfl rfl (by kernel_rfl) (by kernel_rfl) (by kernel_rfl) (fun _ _ _ h => h) (fun _ _ _ _ hst => q_fieldAddr hst rfl Tf42_1) ?_
              clear hst; intro a hst
              refine f_one (i := 15) (by kernel_rfl) rfl rfl (r_store hst rfl rfl rfl Tsz39 rfl (.tail (.tail (.tail (.head (spl_arr (i := z109.toNat) (sz := 5) (f := 1) (by omega) (by simp only [List.length_cons, List.length_nil]; omega)))))) ?_)
              clear hst; intro w hst
              refine ⟨hst.kept (.cons _ (.cons_cons _ (.cons _ (.cons _ (List.nil_sublist _))))), ?_⟩
              refine f_done (by kernel_rfl) ?_
              have hsP := Sl.of_flat hst.fact.2.1 ((Flat.append (Flat.nil kS _ _) hst.fact.2.2.2.2.2).snoc (⟨s, rfl, rfl⟩)) (by simp [hkP.1]) (by omega) (by omega)
              have hst := hst.newFact (Mono.and (Sl.mono kS _ _) (Mono.and (Sl.mono kR _ _) (Flat.mono _ _ _))) ⟨hsP, hst.fact.2.2.2.1⟩
              refine inb_n ?_
              refine then_n ?_
              refine wp_seq ?_
              obtain ⟨us, hfu, hlu⟩ := data_vars hst.fact.2.2 (i := z109.toNat) (by omega) hst.fact.1 (by simp; omega)
              obtain ⟨U, hext9, hco9, hst⟩ := hst.settle_ (.tail (.tail (.tail (.head))))
              have hs9 := Sl.of_flat (hco9 l cD).pre (Flat.mono _ _ _ _ _ _ _ hext9 hfu) (hlu.trans hl1.1) hcapD
              have hst := hst.newFact (Mono.and (Sl.mono (kDn 100000001) _ _) (Sl.mono (kRn 100000001) _ _)) ⟨hs9, hst.fact.2.1.lift rfl (upR (by omega))⟩
              refine wp_region_lit ?_
              refine l_op rfl (r_loada hst rfl Ta26 (.tail _ (.head _)) (.cons rfl (.cons rfl (.nil))) rfl rfl ?_)
              clear hst; intro a hst
              refine l_op rfl (r_store hst rfl rfl rfl Tsz26 rfl (.tail (.tail (.head (.here (.here (.nil (Nat.zero_le _))))))) ?_)
              clear hst; intro w hst
              refine wpList_nil ?_
              refine then_n ?_
              refine wp_ret ?_
              refine x_ret (rs := [.cell 6 26]) hst rfl (.agg rfl Ta26 (.tail _ (.tail _ (.head _))) rfl (.nil)) ?_
              exact ⟨_, _, _, _, rfl, hst.fact.1, hst.fact.2⟩
            clear hst; intro a w g11 hst
            refine ⟨hst.kept (.cons _ (.cons_cons _ (.cons _ (.cons _ (List.nil_sublist _))))), ?_⟩
            refine f_one (i := 8) (by kernel_rfl) rfl rfl (r_loads hst rfl Ts39 (.tail _ (.tail _ (.tail _ (.head _)))) (arr_nth (i := z109.toNat) (sz := 5) (f := 1) (by omega) hnP) rfl ?_)
            clear hst; intro a hst
            refine ⟨hst.kept (.cons _ (.cons_cons _ (.cons _ (.cons _ (List.nil_sublist _))))), ?_⟩
            refine f_one (i := 9) (by kernel_rfl) rfl rfl (r_appendS hst rfl rfl Tet39 hst.fact.2.2.1 hxP h1P (Cont.nil _ _ _) rfl (by omega) (by omega) rfl ?_)
            clear hst; intro a v w U hext hcont hv hst
            obtain ⟨A5, c5, rfl, hc5_⟩ := hv
            have hst := hst.newFact (Mono.and (Ext.monoF _ _) (Mono.and (Cont.mono _ _) hS.mono)) ⟨hst.fact.1, hcont, hst.fact.2⟩
            refine ⟨hst.kept (.cons _ (.cons_cons _ (.cons _ (.cons _ (List.nil_sublist _))))), ?_⟩
            refine f_one (i := 12) (by kernel_rfl) rfl rfl (r_append hst rfl rfl Tet39 (.head _) rfl (by decide) rfl hst.fact.2.1 (by simp [hxP]) (by omega) (by omega) rfl ?_)
            clear hst; intro a v w U hext hcont hv hst
            obtain ⟨A6, c6, rfl, hc6_⟩ := hv
            have hst := hst.newFact (Mono.and (Ext.monoF _ _) (Mono.and (Cont.mono _ _) (Mono.and (Cont.mono _ _) hS.mono))) ⟨hst.fact.1, hcont, hst.fact.2⟩
            refine ⟨hst.kept (.cons _ (.cons_cons _ (.cons _ (.cons _ (List.nil_sublist _))))), ?_⟩
            refine f_take (i := 13) hS hst (.cons _ (.cons_cons _ (.cons _ (.cons _ (List.nil_sublist _))))) rfl rfl rfl rfl (by kernel_rfl) (by kernel_rfl) (by kernel_rfl) (fun _ _ _ h => h) (fun _ _ _ _ hst => q_indexAddr hst rfl rfl Tu23 Tsz42 (hz109a) (by omega)) ?_
            clear hst; intro a hst
            refine f_take (i := 14) hS hst (.cons _ (.cons_cons _ (.cons _ (.cons _ (List.nil_sublist _))))) rfl rfl rfl rfl (by kernel_rfl) (by kernel_rfl) (by kernel_rfl) (fun _ _ _ h => h) (fun _ _ _ _ hst => q_fieldAddr hst rfl Tf42_1) ?_
            clear hst; intro a hst
            refine f_one (i := 15) (by kernel_rfl) rfl rfl (r_store hst rfl rfl rfl Tsz39 rfl (.tail (.tail (.tail (.head (spl_arr (i := z109.toNat) (sz := 5) (f := 1) (by omega) (by simp only [List.length_cons, List.length_nil]; omega)))))) ?_)
            clear hst; intro w hst
            refine ⟨hst.kept (.cons _ (.cons_cons _ (.cons _ (.cons _ (List.nil_sublist _))))), ?_⟩
            refine f_done (by kernel_rfl) ?_
            have hsP := Sl.of_flat hst.fact.2.1 ((Flat.append (Flat.nil kS _ _) hst.fact.2.2.2.2.2).snoc (⟨s, rfl, rfl⟩)) (by simp [hkP.1]) (by omega) (by omega)
            have hst := hst.newFact (Mono.and (Sl.mono kS _ _) (Mono.and (Sl.mono kR _ _) (Flat.mono _ _ _))) ⟨hsP, hst.fact.2.2.2.1⟩
            refine inb_n ?_
            refine then_n ?_
            refine wp_seq ?_
            obtain ⟨us, hfu, hlu⟩ := data_vars hst.fact.2.2 (i := z109.toNat) (by omega) hst.fact.1 (by simp; omega)
            obtain ⟨U, hext9, hco9, hst⟩ := hst.settle_ (.tail (.tail (.tail (.head))))
            have hs9 := Sl.of_flat (hco9 l cD).pre (Flat.mono _ _ _ _ _ _ _ hext9 hfu) (hlu.trans hl1.1) hcapD
            have hst := hst.newFact (Mono.and (Sl.mono (kDn 100000001) _ _) (Sl.mono (kRn 100000001) _ _)) ⟨hs9, hst.fact.2.1.lift rfl (upR (by omega))⟩
            refine wp_region_lit ?_
            refine l_op rfl (r_loada hst rfl Ta26 (.tail _ (.head _)) (.cons rfl (.cons rfl (.nil))) rfl rfl ?_)
            clear hst; intro a hst
            refine l_op rfl (r_store hst rfl rfl rfl Tsz26 rfl (.tail (.tail (.head (.here (.here (.nil (Nat.zero_le _))))))) ?_)
            clear hst; intro w hst
            refine wpList_nil ?_
            refine then_n ?_
            refine wp_ret ?_
            refine x_ret (rs := [.cell 6 26]) hst rfl (.agg rfl Ta26 (.tail _ (.tail _ (.head _))) rfl (.nil)) ?_
            exact ⟨_, _, _, _, rfl, hst.fact.1, hst.fact.2⟩
          try simp only [n1, n2, n3, n4, n5, n6, n7, n8, n9, na, nb] at hc3
          refine wp_seq ?_
          refine wp_region_lit ?_
          refine l_op rfl (r_bin hst rfl rfl rfl rfl rfl ?_)
          clear hst; intro a hst
          refine l_op rfl (r_assign hst rfl rfl ?_)
          clear hst; intro a hst
          refine wpList_nil ?_
          refine then_n ?_
          refine x_cond hst rfl (fun hc4 => ?_) (fun hc4 => ?_)
          · try simp only [n1, n2, n3, n4, n5, n6, n7, n8, n9, na, nb] at hc4
            obtain ⟨tP, _, _, _, AP, lP, cP, htP, _, _, _, hnP, hvP, hlP⟩ := data_at hst.fact.2 (i := z109.toNat) (by omega)
            obtain ⟨nsP, hcP, hfP⟩ := hvP.to_flat
            have hkP := hvP.len
            have hxP : nsP.length = lP * 4 := by have := hfP.1; rw [hkP.1] at this; exact this
            have h1P := hfP.one_cells (fun _ _ _ _ => oneC)
            have hst := (hst.row_nil 65 (sz := 4) (by decide)).newFact (Mono.and (Mono.and (Sl.mono kR _ _) (Flat.mono kD _ _)) (Mono.and (Cont.mono _ _) (Flat.mono kC _ _))) ⟨hst.fact, hcP, hfP⟩
            refine x_drawf (by kernel_rfl) hst (.cons_cons _ (.cons _ (.cons _ (List.nil_sublist _)))) ?_
            clear hst; intro w hS hst
            refine f_take (i := 0) hS hst (.cons_cons _ (.cons _ (.cons _ (List.nil_sublist _)))) rfl rfl rfl rfl (by kernel_rfl) (by kernel_rfl) (by kernel_rfl) (fun _ _ _ h => h) (fun _ _ _ _ hst => q_fieldAddr hst rfl Tf26_0) ?_
            clear hst; intro a hst
            refine f_take (i := 1) hS hst (.cons_cons _ (.cons _ (.cons _ (List.nil_sublist _)))) rfl rfl rfl rfl (by kernel_rfl) (by kernel_rfl) (by kernel_rfl) (fun _ _ _ h => h) (fun _ _ _ _ hst => q_loads hst rfl Ts23 (.head _) rfl) ?_
            clear hst; intro a hst
            refine f_take (i := 2) hS hst (.cons_cons _ (.cons _ (.cons _ (List.nil_sublist _)))) rfl rfl rfl rfl (by kernel_rfl) (by kernel_rfl) (by kernel_rfl) (fun _ _ _ h => h) (fun _ _ _ _ hst => q_move hst rfl) ?_
            clear hst; intro a hst
            refine f_take (i := 3) hS hst (.cons_cons _ (.cons _ (.cons _ (List.nil_sublist _)))) rfl rfl rfl rfl (by kernel_rfl) (by kernel_rfl) (by kernel_rfl) (fun _ _ _ h => h) (fun _ _ _ _ hst => q_fieldAddr hst rfl Tf26_0) ?_
            clear hst; intro a hst
            refine f_take (i := 4) hS hst (.cons_cons _ (.cons _ (.cons _ (List.nil_sublist _)))) rfl rfl rfl rfl (by kernel_rfl) (by kernel_rfl) (by kernel_rfl) (fun _ _ _ h => h) (fun _ _ _ _ hst => q_loads hst rfl Ts23 (.head _) rfl) ?_
            clear hst; intro a hst
            refine f_take (i := 5) hS hst (.cons_cons _ (.cons _ (.cons _ (List.nil_sublist _)))) rfl rfl rfl rfl (by kernel_rfl) (by kernel_rfl) (by kernel_rfl) (fun _ _ _ h => h) (fun _ _ _ _ hst => q_move hst rfl) ?_
            clear hst; intro a hst
            refine f_take (i := 6) hS hst (.cons_cons _ (.cons _ (.cons _ (List.nil_sublist _)))) rfl rfl rfl rfl (by kernel_rfl) (by kernel_rfl) (by kernel_rfl) (fun _ _ _ h => h) (fun _ _ _ _ hst => q_indexAddr hst rfl rfl Tu23 Tsz42 (hz109a) (by omega)) ?_
            clear hst; intro a hst
            refine f_take (i := 7) hS hst (.cons_cons _ (.cons _ (.cons _ (List.nil_sublist _)))) rfl rfl rfl rfl (by kernel_rfl) (by kernel_rfl) (by kernel_rfl) (fun _ _ _ h => h) (fun _ _ _ _ hst => q_fieldAddr hst rfl Tf42_2) ?_
            clear hst; intro a hst
            refine f_take (i := 10) hS hst (.cons_cons _ (.cons _ (.cons _ (List.nil_sublist _)))) rfl rfl rfl rfl (by kernel_rfl) (by kernel_rfl) (by kernel_rfl) (fun _ _ _ h => h) (fun _ _ _ _ hst => q_move hst rfl) ?_
            clear hst; intro a hst
            refine f_take (i := 11) hS hst (.cons_cons _ (.cons _ (.cons _ (List.nil_sublist _)))) rfl rfl rfl rfl (by kernel_rfl) (by kernel_rfl) (by kernel_rfl) (fun _ _ _ h => h) (fun _ _ _ _ hst => q_build (ps := [(0, (Operand.tmp 164))]) hst Tso65 Tz65 (.cons Tf65_0 rfl rfl (.here (.nil (Nat.zero_le _))) (.nil))) ?_
            clear hst; intro a hst
            refine f_two (i := 8) (j := 12) (by kernel_rfl) rfl rfl rfl rfl (r_loads hst rfl Ts40 (.tail _ (.tail _ (.head _))) (arr_nth (i := z109.toNat) (sz := 5) (f := 2) (by omega) hnP) rfl ?_) (r_slice1 hst Tu40 Tsz65 Tz65 rfl (by decide) (by decide) rfl rfl rfl rfl ?_)
            · clear hst; intro a hst
              refine ⟨hst.kept (.cons_cons _ (.cons _ (.cons _ (List.nil_sublist _)))), ?_⟩
              refine f_two (i := 9) (j := 12) (by kernel_rfl) rfl rfl rfl rfl (r_appendS hst rfl rfl Tet40 hst.fact.2.2.1 hxP h1P (Cont.nil _ _ _) rfl (by omega) (by omega) rfl ?_) (r_slice1 hst Tu40 Tsz65 Tz65 rfl (by decide) (by decide) rfl rfl rfl rfl ?_)
              · clear hst; intro a v w U hext hcont hv hst
                obtain ⟨A5, c5, rfl, hc5_⟩ := hv
                have hst := hst.newFact (Mono.and (Ext.monoF _ _) (Mono.and (Cont.mono _ _) hS.mono)) ⟨hst.fact.1, hcont, hst.fact.2⟩
                refine ⟨hst.kept (.cons_cons _ (.cons _ (.cons _ (List.nil_sublist _)))), ?_⟩
                refine f_one (i := 12) (by kernel_rfl) rfl rfl (r_slice1 hst Tu40 Tsz65 Tz65 rfl (by decide) (by decide) rfl rfl rfl rfl ?_)
                clear hst; intro a w g11 hst
                refine ⟨hst.kept (.cons _ (.cons_cons _ (.cons _ (.cons _ (List.nil_sublist _))))), ?_⟩
                refine f_one (i := 13) (by kernel_rfl) rfl rfl (r_append hst rfl rfl Tet40 (.head _) rfl (by decide) rfl hst.fact.2.1 (by simp [hxP]) (by omega) (by omega) rfl ?_)
                clear hst; intro a v w U hext hcont hv hst
                obtain ⟨A6, c6, rfl, hc6_⟩ := hv
                have hst := hst.newFact (Mono.and (Ext.monoF _ _) (Mono.and (Cont.mono _ _) (Mono.and (Cont.mono _ _) hS.mono))) ⟨hst.fact.1, hcont, hst.fact.2⟩
                refine ⟨hst.kept (.cons _ (.cons_cons _ (.cons _ (.cons _ (List.nil_sublist _))))), ?_⟩
                refine f_take (i := 14) hS hst (.cons _ (.cons_cons _ (.cons _ (.cons _ (List.nil_sublist _))))) rfl rfl rfl rfl (by kernel_rfl) (by kernel_rfl) (by kernel_rfl) (fun _ _ _ h => h) (fun _ _ _ _ hst => q_indexAddr hst rfl rfl Tu23 Tsz42 (hz109a) (by omega)) ?_
                clear hst; intro a hst
                refine f_take (i := 15) hS hst (.cons _ (.cons_cons _ (.cons _ (.cons _ (List.nil_sublist _))))) rfl rfl rfl rfl (by kernel_rfl) (by kernel_rfl) (by kernel_rfl) (fun _ _ _ h => h) (fun _ _ _ _ hst => q_fieldAddr hst rfl Tf42_2) ?_
                clear hst; intro a hst
                refine f_one (i := 16) (by kernel_rfl) rfl rfl (r_store hst rfl rfl rfl Tsz40 rfl (.tail (.tail (.tail (.head (spl_arr (i := z109.toNat) (sz := 5) (f := 2) (by omega) (by simp only [List.length_cons, List.length_nil]; omega)))))) ?_)
                clear hst; intro w hst
                refine ⟨hst.kept (.cons _ (.cons_cons _ (.cons _ (.cons _ (List.nil_sublist _))))), ?_⟩
                refine f_done (by kernel_rfl) ?_
                have hsP := Sl.of_flat hst.fact.2.1 ((Flat.append (Flat.nil kC _ _) hst.fact.2.2.2.2.2).snoc (con_rep s _ _)) (by simp [hkP.1]) (by omega) (by omega)
                have hst := hst.newFact (Mono.and (Sl.mono kC _ _) (Mono.and (Sl.mono kR _ _) (Flat.mono _ _ _))) ⟨hsP, hst.fact.2.2.2.1⟩
                refine inb_n ?_
                refine then_n ?_
                refine wp_seq ?_
                obtain ⟨us, hfu, hlu⟩ := data_cons hst.fact.2.2 (i := z109.toNat) (by omega) hst.fact.1 (by simp; omega)
                obtain ⟨U, hext9, hco9, hst⟩ := hst.settle_ (.tail (.tail (.tail (.head))))
                have hs9 := Sl.of_flat (hco9 l cD).pre (Flat.mono _ _ _ _ _ _ _ hext9 hfu) (hlu.trans hl1.1) hcapD
                have hst := hst.newFact (Mono.and (Sl.mono (kDn 100000001) _ _) (Sl.mono (kRn 100000001) _ _)) ⟨hs9, hst.fact.2.1.lift rfl (upR (by omega))⟩
                refine wp_region_lit ?_
                refine l_op rfl (r_loada hst rfl Ta26 (.tail _ (.head _)) (.cons rfl (.cons rfl (.nil))) rfl rfl ?_)
                clear hst; intro a hst
                refine l_op rfl (r_store hst rfl rfl rfl Tsz26 rfl (.tail (.tail (.head (.here (.here (.nil (Nat.zero_le _))))))) ?_)
                clear hst; intro w hst
                refine wpList_nil ?_
                refine then_n ?_
                refine wp_ret ?_
                refine x_ret (rs := [.cell 6 26]) hst rfl (.agg rfl Ta26 (.tail _ (.tail _ (.head _))) rfl (.nil)) ?_
                exact ⟨_, _, _, _, rfl, hst.fact.1, hst.fact.2⟩
              clear hst; intro a w g11 hst
              refine ⟨hst.kept (.cons _ (.cons_cons _ (.cons _ (.cons _ (List.nil_sublist _))))), ?_⟩
              refine f_one (i := 9) (by kernel_rfl) rfl rfl (r_appendS hst rfl rfl Tet40 hst.fact.2.2.1 hxP h1P (Cont.nil _ _ _) rfl (by omega) (by omega) rfl ?_)
              clear hst; intro a v w U hext hcont hv hst
              obtain ⟨A5, c5, rfl, hc5_⟩ := hv
              have hst := hst.newFact (Mono.and (Ext.monoF _ _) (Mono.and (Cont.mono _ _) hS.mono)) ⟨hst.fact.1, hcont, hst.fact.2⟩
              refine ⟨hst.kept (.cons _ (.cons_cons _ (.cons _ (.cons _ (List.nil_sublist _))))), ?_⟩
              refine f_one (i := 13) (by kernel_rfl) rfl rfl (r_append hst rfl rfl Tet40 (.head _) rfl (by decide) rfl hst.fact.2.1 (by simp [hxP]) (by omega) (by omega) rfl ?_)
              clear hst; intro a v w U hext hcont hv hst
              obtain ⟨A6, c6, rfl, hc6_⟩ := hv
              have hst := hst.newFact (Mono.and (Ext.monoF _ _) (Mono.and (Cont.mono _ _) (Mono.and (Cont.mono _ _) hS.mono))) ⟨hst.fact.1, hcont, hst.fact.2⟩
              refine ⟨hst.kept (.cons _ (.cons_cons _ (.cons _ (.cons _ (List.nil_sublist _))))), ?_⟩
              refine f_take (i := 14) hS hst (.cons _ (.cons_cons _ (.cons _ (.cons _ (List.nil_sublist _))))) rfl rfl rfl rfl (by kernel_rfl) (by kernel_rfl) (by kernel_rfl) (fun _ _ _ h => h) (fun _ _ _ _ hst => q_indexAddr hst rfl rfl Tu23 Tsz42 (hz109a) (by omega)) ?_
              clear hst; intro a hst
              refine f_take (i := 15) hS hst (.cons _ (.cons_cons _ (.cons _ (.cons _ (List.nil_sublist _))))) rfl rfl rfl rfl (by kernel_rfl) (by kernel_rfl) (by kernel_rfl) (fun _ _ _ h => h) (fun _ _ _ _ hst => q_fieldAddr hst rfl Tf42_2) ?_
              clear hst; intro a hst
              refine f_one (i := 16) (by kernel_rfl) rfl rfl (r_store hst rfl rfl rfl Tsz40 rfl (.tail (.tail (.tail (.head (spl_arr (i := z109.toNat) (sz := 5) (f := 2) (by omega) (by simp only [List.length_cons, List.length_nil]; omega)))))) ?_)
              clear hst; intro w hst
              refine ⟨hst.kept (.cons _ (.cons_cons _ (.cons _ (.cons _ (List.nil_sublist _))))), ?_⟩
              refine f_done (by kernel_rfl) ?_
              have hsP := Sl.of_flat hst.fact.2.1 ((Flat.append (Flat.nil kC _ _) hst.fact.2.2.2.2.2).snoc (con_rep s _ _)) (by simp [hkP.1]) (by omega) (by omega)
              have hst := hst.newFact (Mono.and (Sl.mono kC _ _) (Mono.and (Sl.mono kR _ _) (Flat.mono _ _ _))) ⟨hsP, hst.fact.2.2.2.1⟩
              refine inb_n ?_
              refine then_n ?_
              refine wp_seq ?_
              obtain ⟨us, hfu, hlu⟩ := data_cons hst.fact.2.2 (i := z109.toNat) (by omega) hst.fact.1 (by simp; omega)
              obtain ⟨U, hext9, hco9, hst⟩ := hst.settle_ (.tail (.tail (.tail (.head))))
              have hs9 := Sl.of_flat (hco9 l cD).pre (Flat.mono _ _ _ _ _ _ _ hext9 hfu) (hlu.trans hl1.1) hcapD
              have hst := hst.newFact (Mono.and (Sl.mono (kDn 100000001) _ _) (Sl.mono (kRn 100000001) _ _)) ⟨hs9, hst.fact.2.1.lift rfl (upR (by omega))⟩
              refine wp_region_lit ?_
              refine l_op rfl (r_loada hst rfl Ta26 (.tail _ (.head _)) (.cons rfl (.cons rfl (.nil))) rfl rfl ?_)
              clear hst; intro a hst
              refine l_op rfl (r_store hst rfl rfl rfl Tsz26 rfl (.tail (.tail (.head (.here (.here (.nil (Nat.zero_le _))))))) ?_)
              clear hst; intro w hst
              refine wpList_nil ?_
              refine then_n ?_
              refine wp_ret ?_
              refine x_ret (rs := [.cell 6 26]) hst rfl (.agg rfl Ta26 (.tail _ (.tail _ (.head _))) rfl (.nil)) ?_
              exact ⟨_, _, _, _, rfl, hst.fact.1, hst.fact.2⟩
            clear hst; intro a w g11 hst
            refine ⟨hst.kept (.cons _ (.cons_cons _ (.cons _ (.cons _ (List.nil_sublist _))))), ?_⟩
            refine f_one (i := 8) (by kernel_rfl) rfl rfl (r_loads hst rfl Ts40 (.tail _ (.tail _ (.tail _ (.head _)))) (arr_nth (i := z109.toNat) (sz := 5) (f := 2) (by omega) hnP) rfl ?_)
            clear hst; intro a hst
            refine ⟨hst.kept (.cons _ (.cons_cons _ (.cons _ (.cons _ (List.nil_sublist _))))), ?_⟩
            refine f_one (i := 9) (by kernel_rfl) rfl rfl (r_appendS hst rfl rfl Tet40 hst.fact.2.2.1 hxP h1P (Cont.nil _ _ _) rfl (by omega) (by omega) rfl ?_)
            clear hst; intro a v w U hext hcont hv hst
            obtain ⟨A5, c5, rfl, hc5_⟩ := hv
            have hst := hst.newFact (Mono.and (Ext.monoF _ _) (Mono.and (Cont.mono _ _) hS.mono)) ⟨hst.fact.1, hcont, hst.fact.2⟩
            refine ⟨hst.kept (.cons _ (.cons_cons _ (.cons _ (.cons _ (List.nil_sublist _))))), ?_⟩
            refine f_one (i := 13) (by kernel_rfl) rfl rfl (r_append hst rfl rfl Tet40 (.head _) rfl (by decide) rfl hst.fact.2.1 (by simp [hxP]) (by omega) (by omega) rfl ?_)
            clear hst; intro a v w U hext hcont hv hst
            obtain ⟨A6, c6, rfl, hc6_⟩ := hv
            have hst := hst.newFact (Mono.and (Ext.monoF _ _) (Mono.and (Cont.mono _ _) (Mono.and (Cont.mono _ _) hS.mono))) ⟨hst.fact.1, hcont, hst.fact.2⟩
            refine ⟨hst.kept (.cons _ (.cons_cons _ (.cons _ (.cons _ (List.nil_sublist _))))), ?_⟩
            refine f_take (i := 14) hS hst (.cons _ (.cons_cons _ (.cons _ (.cons _ (List.nil_sublist _))))) rfl rfl rfl rfl (by kernel_rfl) (by kernel_rfl) (by kernel_rfl) (fun _ _ _ h => h) (fun _ _ _ _ hst => q_indexAddr hst rfl rfl Tu23 Tsz42 (hz109a) (by omega)) ?_
            clear hst; intro a hst
            refine f_take (i := 15) hS hst (.cons _ (.cons_cons _ (.cons _ (.cons _ (List.nil_sublist _))))) rfl rfl rfl rfl (by kernel_rfl) (by kernel_rfl) (by kernel_rfl) (fun _ _ _ h => h) (fun _ _ _ _ hst => q_fieldAddr hst rfl Tf42_2) ?_
            clear hst; intro a hst
            refine f_one (i := 16) (by kernel_rfl) rfl rfl (r_store hst rfl rfl rfl Tsz40 rfl (.tail (.tail (.tail (.head (spl_arr (i := z109.toNat) (sz := 5) (f := 2) (by omega) (by simp only [List.length_cons, List.length_nil]; omega)))))) ?_)
            clear hst; intro w hst
            refine ⟨hst.kept (.cons _ (.cons_cons _ (.cons _ (.cons _ (List.nil_sublist _))))), ?_⟩
            refine f_done (by kernel_rfl) ?_
            have hsP := Sl.of_flat hst.fact.2.1 ((Flat.append (Flat.nil kC _ _) hst.fact.2.2.2.2.2).snoc (con_rep s _ _)) (by simp [hkP.1]) (by omega) (by omega)
            have hst := hst.newFact (Mono.and (Sl.mono kC _ _) (Mono.and (Sl.mono kR _ _) (Flat.mono _ _ _))) ⟨hsP, hst.fact.2.2.2.1⟩
            refine inb_n ?_
            refine then_n ?_
            refine wp_seq ?_
            obtain ⟨us, hfu, hlu⟩ := data_cons hst.fact.2.2 (i := z109.toNat) (by omega) hst.fact.1 (by simp; omega)
            obtain ⟨U, hext9, hco9, hst⟩ := hst.settle_ (.tail (.tail (.tail (.head))))
            have hs9 := Sl.of_flat (hco9 l cD).pre (Flat.mono _ _ _ _ _ _ _ hext9 hfu) (hlu.trans hl1.1) hcapD
            have hst := hst.newFact (Mono.and (Sl.mono (kDn 100000001) _ _) (Sl.mono (kRn 100000001) _ _)) ⟨hs9, hst.fact.2.1.lift rfl (upR (by omega))⟩
            refine wp_region_lit ?_
            refine l_op rfl (r_loada hst rfl Ta26 (.tail _ (.head _)) (.cons rfl (.cons rfl (.nil))) rfl rfl ?_)
            clear hst; intro a hst
            refine l_op rfl (r_store hst rfl rfl rfl Tsz26 rfl (.tail (.tail (.head (.here (.here (.nil (Nat.zero_le _))))))) ?_)
            clear hst; intro w hst
            refine wpList_nil ?_
            refine then_n ?_
            refine wp_ret ?_
            refine x_ret (rs := [.cell 6 26]) hst rfl (.agg rfl Ta26 (.tail _ (.tail _ (.head _))) rfl (.nil)) ?_
            exact ⟨_, _, _, _, rfl, hst.fact.1, hst.fact.2⟩
          try simp only [n1, n2, n3, n4, n5, n6, n7, n8, n9, na, nb] at hc4
          obtain ⟨U, hext8, hco8, hst⟩ := hst.settle_ (.tail (.tail (.head)))
          have hs8 := Sl.of_flat (hco8 l cD).pre hst.fact.2 hl1.1 hcapD
          obtain ⟨n1, hco1, hfl1⟩ := (hs8.front z109.toNat (by omega)).to_flat
          obtain ⟨n2, hco2, hfl2⟩ := (hs8.back (z109 + 1).toNat (by omega)).to_flat
          have hln1 : n1.length = z109.toNat * 5 := by have := hfl1.1; rw [List.length_take, hl1.1, Nat.min_eq_left (by omega)] at this; exact this
          have hln2 : n2.length = (l - (z109 + 1).toNat) * 5 := by have := hfl2.1; rw [List.length_drop, hl1.1] at this; exact this
          have hon1 := hfl1.one_cells (fun _ _ _ _ => oneD)
          have hon2 := hfl2.one_cells (fun _ _ _ _ => oneD)
          have hst := (hst.row_nil 42 (sz := 5) (by decide)).newFact (Mono.and (Sl.mono kR _ _) (Mono.and (Mono.and (Cont.mono _ _) (Flat.mono kD _ _)) (Mono.and (Cont.mono _ _) (Flat.mono kD _ _)))) ⟨hst.fact.1, ⟨hco1, hfl1⟩, ⟨hco2, hfl2⟩⟩
          refine x_drawf (by kernel_rfl) hst (.cons _ (.cons _ (List.nil_sublist _))) ?_
          clear hst; intro w hS hst
          refine f_take (i := 0) hS hst (.cons _ (.cons _ (List.nil_sublist _))) rfl rfl rfl rfl (by kernel_rfl) (by kernel_rfl) (by kernel_rfl) (fun _ _ _ h => h) (fun _ _ _ _ hst => q_fieldAddr hst rfl Tf26_0) ?_
          clear hst; intro a hst
          refine f_take (i := 2) hS hst (.cons _ (.cons _ (List.nil_sublist _))) rfl rfl rfl rfl (by kernel_rfl) (by kernel_rfl) (by kernel_rfl) (fun _ _ _ h => h) (fun _ _ _ _ hst => q_move hst rfl) ?_
          clear hst; intro a hst
          refine f_take (i := 5) hS hst (.cons _ (.cons _ (List.nil_sublist _))) rfl rfl rfl rfl (by kernel_rfl) (by kernel_rfl) (by kernel_rfl) (fun _ _ _ h => h) (fun _ _ _ _ hst => q_fieldAddr hst rfl Tf26_0) ?_
          clear hst; intro a hst
          refine f_take (i := 7) hS hst (.cons _ (.cons _ (List.nil_sublist _))) rfl rfl rfl rfl (by kernel_rfl) (by kernel_rfl) (by kernel_rfl) (fun _ _ _ h => h) (fun _ _ _ _ hst => q_move hst rfl) ?_
          clear hst; intro a hst
          refine f_take (i := 8) hS hst (.cons _ (.cons _ (List.nil_sublist _))) rfl rfl rfl rfl (by kernel_rfl) (by kernel_rfl) (by kernel_rfl) (fun _ _ _ h => h) (fun _ _ _ _ hst => q_bin hst rfl rfl rfl rfl) ?_
          clear hst; intro a hst
          rw [wrap_in _ (by omega) (by omega)] at hst
          refine f_two (i := 1) (j := 6) (by kernel_rfl) rfl rfl rfl rfl (r_loads hst rfl Ts23 (.head _) rfl rfl ?_) (r_loads hst rfl Ts23 (.head _) rfl rfl ?_)
          · clear hst; intro a hst
            refine ⟨hst.kept (.cons _ (.cons _ (List.nil_sublist _))), ?_⟩
            refine f_take (i := 3) hS hst (.cons _ (.cons _ (List.nil_sublist _))) rfl rfl rfl rfl (by kernel_rfl) (by kernel_rfl) (by kernel_rfl) (fun _ _ _ h => h) (fun _ _ _ _ hst => q_slicehi hst rfl rfl Tu23 Tsz42 (hz109a) (by omega)) ?_
            clear hst; intro a hst
            refine f_two (i := 4) (j := 6) (by kernel_rfl) rfl rfl rfl rfl (r_appendS hst rfl rfl Tet23 hst.fact.2.2.1.1 hln1 hon1 (Cont.nil _ _ _) rfl (by omega) (by omega) rfl ?_) (r_loads hst rfl Ts23 (.head _) rfl rfl ?_)
            · clear hst; intro a v w U hext hcont hv hst
              obtain ⟨A5, c5, rfl, hc5_⟩ := hv
              have hst := hst.newFact (Mono.and (Ext.monoF _ _) (Mono.and (Cont.mono _ _) hS.mono)) ⟨hst.fact.1, hcont, hst.fact.2⟩
              refine ⟨hst.kept (.cons _ (.cons _ (List.nil_sublist _))), ?_⟩
              refine f_one (i := 6) (by kernel_rfl) rfl rfl (r_loads hst rfl Ts23 (.head _) rfl rfl ?_)
              clear hst; intro a hst
              refine ⟨hst.kept (.cons _ (.cons _ (List.nil_sublist _))), ?_⟩
              refine f_take (i := 9) hS hst (.cons _ (.cons _ (List.nil_sublist _))) rfl rfl rfl rfl (by kernel_rfl) (by kernel_rfl) (by kernel_rfl) (fun _ _ _ h => h) (fun _ _ _ _ hst => q_slicelo hst rfl rfl Tu23 Tsz42 ((by omega : (0 : Int) ≤ z109 + 1)) (by omega)) ?_
              clear hst; intro a hst
              refine f_one (i := 10) (by kernel_rfl) rfl rfl (r_appendS hst rfl rfl Tet23 hst.fact.2.2.2.2.1 hln2 hon2 hst.fact.2.1 (by simp [hln1]) (by omega) (by omega) rfl ?_)
              clear hst; intro a v w U hext hcont hv hst
              obtain ⟨A6, c6, rfl, hc6_⟩ := hv
              have hst := hst.newFact (Mono.and (Ext.monoF _ _) (Mono.and (Cont.mono _ _) (Mono.and (Cont.mono _ _) hS.mono))) ⟨hst.fact.1, hcont, hst.fact.2⟩
              refine ⟨hst.kept (.cons _ (.cons _ (List.nil_sublist _))), ?_⟩
              refine f_take (i := 11) hS hst (.cons _ (.cons _ (List.nil_sublist _))) rfl rfl rfl rfl (by kernel_rfl) (by kernel_rfl) (by kernel_rfl) (fun _ _ _ h => h) (fun _ _ _ _ hst => q_fieldAddr hst rfl Tf26_0) ?_
              clear hst; intro a hst
              refine f_one (i := 12) (by kernel_rfl) rfl rfl (r_store hst rfl rfl rfl Tsz23 rfl (.head (.here (.nil (Nat.zero_le _)))) ?_)
              clear hst; intro w hst
              refine ⟨hst.kept (.cons _ (.cons _ (List.nil_sublist _))), ?_⟩
              refine f_done (by kernel_rfl) ?_
              have hsN := Sl.of_flat hst.fact.2.1 (Flat.append (Flat.append (Flat.nil kD _ _) hst.fact.2.2.2.2.1.2) hst.fact.2.2.2.2.2.2) (by simp [hl1.1]; omega) (by omega) (by omega)
              have hst := hst.newFact (Mono.and (Sl.mono kR _ _) (Sl.mono kD _ _)) ⟨hst.fact.2.2.2.1, hsN⟩
              refine inb_n ?_
              refine then_n ?_
              refine wp_seq ?_
              have hst := hst.newFact (Mono.and (Sl.mono (kDn 100000001) _ _) (Sl.mono (kRn 100000001) _ _)) ⟨hst.fact.2.lift rfl (upD (by omega)), hst.fact.1.lift rfl (upR (by omega))⟩
              refine wp_region_lit ?_
              refine l_op rfl (r_loada hst rfl Ta26 (.head _) (.cons rfl (.cons rfl (.nil))) rfl rfl ?_)
              clear hst; intro a hst
              refine l_op rfl (r_store hst rfl rfl rfl Tsz26 rfl (.tail (.head (.here (.here (.nil (Nat.zero_le _)))))) ?_)
              clear hst; intro w hst
              refine wpList_nil ?_
              refine then_n ?_
              refine wp_ret ?_
              refine x_ret (rs := [.cell 6 26]) hst rfl (.agg rfl Ta26 (.tail _ (.head _)) rfl (.nil)) ?_
              exact ⟨_, _, _, _, rfl, hst.fact.1, hst.fact.2⟩
            clear hst; intro a hst
            refine ⟨hst.kept (.cons _ (.cons _ (List.nil_sublist _))), ?_⟩
            refine f_take (i := 9) hS hst (.cons _ (.cons _ (List.nil_sublist _))) rfl rfl rfl rfl (by kernel_rfl) (by kernel_rfl) (by kernel_rfl) (fun _ _ _ h => h) (fun _ _ _ _ hst => q_slicelo hst rfl rfl Tu23 Tsz42 ((by omega : (0 : Int) ≤ z109 + 1)) (by omega)) ?_
            clear hst; intro a hst
            refine f_one (i := 4) (by kernel_rfl) rfl rfl (r_appendS hst rfl rfl Tet23 hst.fact.2.2.1.1 hln1 hon1 (Cont.nil _ _ _) rfl (by omega) (by omega) rfl ?_)
            clear hst; intro a v w U hext hcont hv hst
            obtain ⟨A5, c5, rfl, hc5_⟩ := hv
            have hst := hst.newFact (Mono.and (Ext.monoF _ _) (Mono.and (Cont.mono _ _) hS.mono)) ⟨hst.fact.1, hcont, hst.fact.2⟩
            refine ⟨hst.kept (.cons _ (.cons _ (List.nil_sublist _))), ?_⟩
            refine f_one (i := 10) (by kernel_rfl) rfl rfl (r_appendS hst rfl rfl Tet23 hst.fact.2.2.2.2.1 hln2 hon2 hst.fact.2.1 (by simp [hln1]) (by omega) (by omega) rfl ?_)
            clear hst; intro a v w U hext hcont hv hst
            obtain ⟨A6, c6, rfl, hc6_⟩ := hv
            have hst := hst.newFact (Mono.and (Ext.monoF _ _) (Mono.and (Cont.mono _ _) (Mono.and (Cont.mono _ _) hS.mono))) ⟨hst.fact.1, hcont, hst.fact.2⟩
            refine ⟨hst.kept (.cons _ (.cons _ (List.nil_sublist _))), ?_⟩
            refine f_take (i := 11) hS hst (.cons _ (.cons _ (List.nil_sublist _))) rfl rfl rfl rfl (by kernel_rfl) (by kernel_rfl) (by kernel_rfl) (fun _ _ _ h => h) (fun _ _ _ _ hst => q_fieldAddr hst rfl Tf26_0) ?_
            clear hst; intro a hst
            refine f_one (i := 12) (by kernel_rfl) rfl rfl (r_store hst rfl rfl rfl Tsz23 rfl (.head (.here (.nil (Nat.zero_le _)))) ?_)
            clear hst; intro w hst
            refine ⟨hst.kept (.cons _ (.cons _ (List.nil_sublist _))), ?_⟩
            refine f_done (by kernel_rfl) ?_
            have hsN := Sl.of_flat hst.fact.2.1 (Flat.append (Flat.append (Flat.nil kD _ _) hst.fact.2.2.2.2.1.2) hst.fact.2.2.2.2.2.2) (by simp [hl1.1]; omega) (by omega) (by omega)
            have hst := hst.newFact (Mono.and (Sl.mono kR _ _) (Sl.mono kD _ _)) ⟨hst.fact.2.2.2.1, hsN⟩
            refine inb_n ?_
            refine then_n ?_
            refine wp_seq ?_
            have hst := hst.newFact (Mono.and (Sl.mono (kDn 100000001) _ _) (Sl.mono (kRn 100000001) _ _)) ⟨hst.fact.2.lift rfl (upD (by omega)), hst.fact.1.lift rfl (upR (by omega))⟩
            refine wp_region_lit ?_
            refine l_op rfl (r_loada hst rfl Ta26 (.head _) (.cons rfl (.cons rfl (.nil))) rfl rfl ?_)
            clear hst; intro a hst
            refine l_op rfl (r_store hst rfl rfl rfl Tsz26 rfl (.tail (.head (.here (.here (.nil (Nat.zero_le _)))))) ?_)
            clear hst; intro w hst
            refine wpList_nil ?_
            refine then_n ?_
            refine wp_ret ?_
            refine x_ret (rs := [.cell 6 26]) hst rfl (.agg rfl Ta26 (.tail _ (.head _)) rfl (.nil)) ?_
            exact ⟨_, _, _, _, rfl, hst.fact.1, hst.fact.2⟩
          clear hst; intro a hst
          refine ⟨hst.kept (.cons _ (.cons _ (List.nil_sublist _))), ?_⟩
          refine f_take (i := 9) hS hst (.cons _ (.cons _ (List.nil_sublist _))) rfl rfl rfl rfl (by kernel_rfl) (by kernel_rfl) (by kernel_rfl) (fun _ _ _ h => h) (fun _ _ _ _ hst => q_slicelo hst rfl rfl Tu23 Tsz42 ((by omega : (0 : Int) ≤ z109 + 1)) (by omega)) ?_
          clear hst; intro a hst
          refine f_one (i := 1) (by kernel_rfl) rfl rfl (r_loads hst rfl Ts23 (.head _) rfl rfl ?_)
          clear hst; intro a hst
          refine ⟨hst.kept (.cons _ (.cons _ (List.nil_sublist _))), ?_⟩
          refine f_take (i := 3) hS hst (.cons _ (.cons _ (List.nil_sublist _))) rfl rfl rfl rfl (by kernel_rfl) (by kernel_rfl) (by kernel_rfl) (fun _ _ _ h => h) (fun _ _ _ _ hst => q_slicehi hst rfl rfl Tu23 Tsz42 (hz109a) (by omega)) ?_
          clear hst; intro a hst
          refine f_one (i := 4) (by kernel_rfl) rfl rfl (r_appendS hst rfl rfl Tet23 hst.fact.2.2.1.1 hln1 hon1 (Cont.nil _ _ _) rfl (by omega) (by omega) rfl ?_)
          clear hst; intro a v w U hext hcont hv hst
          obtain ⟨A5, c5, rfl, hc5_⟩ := hv
          have hst := hst.newFact (Mono.and (Ext.monoF _ _) (Mono.and (Cont.mono _ _) hS.mono)) ⟨hst.fact.1, hcont, hst.fact.2⟩
          refine ⟨hst.kept (.cons _ (.cons _ (List.nil_sublist _))), ?_⟩
          refine f_one (i := 10) (by kernel_rfl) rfl rfl (r_appendS hst rfl rfl Tet23 hst.fact.2.2.2.2.1 hln2 hon2 hst.fact.2.1 (by simp [hln1]) (by omega) (by omega) rfl ?_)
          clear hst; intro a v w U hext hcont hv hst
          obtain ⟨A6, c6, rfl, hc6_⟩ := hv
          have hst := hst.newFact (Mono.and (Ext.monoF _ _) (Mono.and (Cont.mono _ _) (Mono.and (Cont.mono _ _) hS.mono))) ⟨hst.fact.1, hcont, hst.fact.2⟩
          refine ⟨hst.kept (.cons _ (.cons _ (List.nil_sublist _))), ?_⟩
          refine f_take (i := 11) hS hst (.cons _ (.cons _ (List.nil_sublist _))) rfl rfl rfl rfl (by kernel_rfl) (by kernel_rfl) (by kernel_rfl) (fun _ _ _ h => h) (fun _ _ _ _ hst => q_fieldAddr hst rfl Tf26_0) ?_
          clear hst; intro a hst
          refine f_one (i := 12) (by kernel_rfl) rfl rfl (r_store hst rfl rfl rfl Tsz23 rfl (.head (.here (.nil (Nat.zero_le _)))) ?_)
          clear hst; intro w hst
          refine ⟨hst.kept (.cons _ (.cons _ (List.nil_sublist _))), ?_⟩
          refine f_done (by kernel_rfl) ?_
          have hsN := Sl.of_flat hst.fact.2.1 (Flat.append (Flat.append (Flat.nil kD _ _) hst.fact.2.2.2.2.1.2) hst.fact.2.2.2.2.2.2) (by simp [hl1.1]; omega) (by omega) (by omega)
          have hst := hst.newFact (Mono.and (Sl.mono kR _ _) (Sl.mono kD _ _)) ⟨hst.fact.2.2.2.1, hsN⟩
          refine inb_n ?_
          refine then_n ?_
          refine wp_seq ?_
          have hst := hst.newFact (Mono.and (Sl.mono (kDn 100000001) _ _) (Sl.mono (kRn 100000001) _ _)) ⟨hst.fact.2.lift rfl (upD (by omega)), hst.fact.1.lift rfl (upR (by omega))⟩
          refine wp_region_lit ?_
          refine l_op rfl (r_loada hst rfl Ta26 (.head _) (.cons rfl (.cons rfl (.nil))) rfl rfl ?_)
          clear hst; intro a hst
          refine l_op rfl (r_store hst rfl rfl rfl Tsz26 rfl (.tail (.head (.here (.here (.nil (Nat.zero_le _)))))) ?_)
          clear hst; intro w hst
          refine wpList_nil ?_
          refine then_n ?_
          refine wp_ret ?_
          refine x_ret (rs := [.cell 6 26]) hst rfl (.agg rfl Ta26 (.tail _ (.head _)) rfl (.nil)) ?_
          exact ⟨_, _, _, _, rfl, hst.fact.1, hst.fact.2⟩
        try simp only [n1, n2, n3, n4, n5, n6, n7, n8, n9, na, nb] at hc1
        refine wp_skip ?_
        refine then_n ?_
        refine wp_seq ?_
        obtain ⟨U, hextR, hcoR, hst⟩ := hst.settle_arr hAR (H' := ⟨g7, 26, _⟩ :: ⟨g6, 26, _⟩ :: HD) (fun b hb => by subst hb; exact .tail (.tail (rem_last b HD))) (fun hb => by subst hb; rw [List.append_nil])
        obtain ⟨U, hextD, hcoD, hst⟩ := hst.settle_arr hAD (H' := [⟨g7, 26, _⟩, ⟨g6, 26, _⟩]) (fun b hb => by subst hb; exact .tail (.tail .head)) (fun hb => by subst hb; rfl)
        obtain ⟨_, _, hED, hcD⟩ := hAD.len
        simp only [Value.slice.injEq, true_and] at hED
        obtain ⟨_, _, hER, hcR⟩ := hAR.len
        simp only [Value.slice.injEq, true_and] at hER
        have hslD := Sl.of_flat hcoD hst.fact.1 hl1.1 (by omega)
        have hslR := Sl.of_flat (Cont.mono _ _ _ _ _ _ hextD hcoR) hst.fact.2 hl3.1 (by omega)
        have hst := hst.newFact (Mono.and (Sl.mono (kDn 100000001) _ _) (Sl.mono (kRn 100000001) _ _)) ⟨hslD.lift rfl (upD (by omega)), hslR.lift rfl (upR (by omega))⟩
        refine wp_region_lit ?_
        refine l_op rfl (r_loada hst rfl Ta26 (.head _) (.cons rfl (.cons rfl (.nil))) rfl rfl ?_)
        clear hst; intro a hst
        refine l_op rfl (r_store hst rfl rfl rfl Tsz26 rfl (.tail (.head (.here (.here (.nil (Nat.zero_le _)))))) ?_)
        clear hst; intro w hst
        refine wpList_nil ?_
        refine then_n ?_
        refine wp_ret ?_
        refine x_ret (rs := [.cell 6 26]) hst rfl (.agg rfl Ta26 (.tail _ (.head _)) rfl (.nil)) ?_
        exact ⟨_, _, _, _, rfl, hst.fact.1, hst.fact.2⟩
      refine wp_seq ?_
      refine wp_region_lit ?_
      refine l_op rfl (r_fieldAddr hst rfl Tf26_1 rfl ?_)
      clear hst; intro a hst
      refine l_op rfl (r_loads hst rfl Ts24 (.head _) rfl rfl ?_)
      clear hst; intro a hst
      refine l_op rfl (r_lensl hst rfl Tu24 rfl ?_)
      clear hst; intro a hst
      refine l_op rfl (r_assign hst rfl rfl ?_)
      clear hst; intro a hst
      refine wpList_nil ?_
      refine then_n ?_
      refine wp_seq ?_
      refine wp_region_lit ?_
      refine l_op rfl (r_move hst rfl rfl ?_)
      clear hst; intro a hst
      refine l_op rfl (r_bin hst rfl rfl rfl rfl rfl ?_)
      clear hst; intro a hst
      refine l_op rfl (r_move hst rfl rfl ?_)
      clear hst; intro a hst
      refine hst.split (t := 29) rfl (fun hc5 hst => ?_) (fun hc5 hst => ?_)
      · try simp only [n1, n2, n3, n4, n5, n6, n7, n8, n9, na, nb] at hc5
        refine l_on hst rfl rfl rfl (r_move hst rfl rfl ?_)
        clear hst; intro a hst
        refine l_on hst rfl rfl rfl (r_rem2 hst rfl rfl (by omega) (by omega) rfl ?_)
        clear hst; intro a z31 hz31a hz31b hst
        refine l_on hst rfl rfl rfl (r_bin hst rfl rfl rfl rfl rfl ?_)
        clear hst; intro a hst
        refine l_op rfl (r_pick hst rfl rfl rfl ?_)
        clear hst; intro a hst
        refine wpList_nil ?_
        refine then_n ?_
        refine x_cond hst rfl (fun hc6 => ?_) (fun hc6 => ?_)
        · try simp only [n1, n2, n3, n4, n5, n6, n7, n8, n9, na, nb] at hc6
          refine wp_seq ?_
          obtain ⟨U, hextD, hcoD, hst⟩ := hst.settle_arr hAD (H' := ⟨g7, 26, _⟩ :: ⟨g6, 26, _⟩ :: HR) (fun b hb => by subst hb; exact .tail (.tail .head)) (fun hb => by subst hb; rfl)
          obtain ⟨_, _, hED, hcD⟩ := hAD.len
          simp only [Value.slice.injEq, true_and] at hED
          have hslD := Sl.of_flat hcoD hst.fact.1 hl1.1 (by omega)
          have hst := hst.newFact (Mono.and (Sl.mono kD _ _) (Flat.mono kR _ _)) ⟨hslD, hst.fact.2⟩
          obtain ⟨hxR, hR0 | ⟨hpos, gR, capR, junk, hvR, hcapR, rfl⟩⟩ := hAR
          · omega
          simp only [Value.slice.injEq] at hvR
          obtain ⟨rfl, -, rfl⟩ := hvR
          refine wp_region_lit ?_
          refine l_op rfl (r_move hst rfl rfl ?_)
          clear hst; intro a hst
          refine l_op rfl (r_quo2 hst rfl rfl (by omega) (by omega) (by omega) rfl ?_)
          clear hst; intro a z35 hz35a hz35b hst
          refine l_op rfl (r_move hst rfl rfl ?_)
          clear hst; intro a hst
          refine l_op rfl (r_rem2 hst rfl rfl (by omega) (by omega) rfl ?_)
          clear hst; intro a z37 hz37a hz37b hst
          refine l_op rfl (r_assign hst rfl rfl ?_)
          clear hst; intro a hst
          refine wpList_nil ?_
          refine then_n ?_
          refine wp_seq ?_
          refine wp_seq ?_
          refine wp_region_lit ?_
          refine l_op rfl (r_move hst rfl rfl ?_)
          clear hst; intro a hst
          refine l_op rfl (r_quo2 hst rfl rfl (by omega) (by omega) (by omega) rfl ?_)
          clear hst; intro a z39 hz39a hz39b hst
          refine l_op rfl (r_move hst rfl rfl ?_)
          clear hst; intro a hst
          refine l_op rfl (r_quo2 hst rfl rfl (by omega) (by omega) (by omega) rfl ?_)
          clear hst; intro a z41 hz41a hz41b hst
          refine l_op rfl (r_rem2 hst rfl rfl (by omega) (by omega) rfl ?_)
          clear hst; intro a z42 hz42a hz42b hst
          refine wpList_nil ?_
          refine then_n ?_
          refine wp_block ?_
          refine wp_seq ?_
          refine wp_region_lit ?_
          refine l_op rfl (r_bin hst rfl rfl rfl rfl rfl ?_)
          clear hst; intro a hst
          refine l_op rfl (r_assign hst rfl rfl ?_)
          clear hst; intro a hst
          refine wpList_nil ?_
          refine then_n ?_
          refine x_cond hst rfl (fun hc7 => ?_) (fun hc7 => ?_)
          · try simp only [n1, n2, n3, n4, n5, n6, n7, n8, n9, na, nb] at hc7
            refine wp_region_lit ?_
            refine l_op rfl (r_fieldAddr hst rfl Tf26_1 rfl ?_)
            clear hst; intro a hst
            refine l_op rfl (r_loads hst rfl Ts24 (.head _) rfl rfl ?_)
            clear hst; intro a hst
            refine l_op rfl (r_move hst rfl rfl ?_)
            clear hst; intro a hst
            refine l_op rfl (r_move hst rfl rfl ?_)
            clear hst; intro a hst
            refine l_op rfl (r_indexAddr hst rfl rfl Tu24 Tsz60 (hz37a) (by omega) rfl ?_)
            clear hst; intro a hst
            refine l_op rfl (r_fieldAddr hst rfl Tf60_0 rfl ?_)
            clear hst; intro a hst
            refine l_op rfl (r_store hst rfl rfl rfl Tsz9 rfl (.tail (.tail (.head (spl_arr (i := z37.toNat) (sz := 11) (f := 0) (by omega) (by simp only [List.length_cons, List.length_nil]; omega))))) ?_)
            clear hst; intro w hst
            refine wpList_nil ?_
            refine inb_n ?_
            refine then_n ?_
            refine wp_seq ?_
            obtain ⟨us, hfu, hlu⟩ := rule_name hst.fact.2 (i := z37.toNat) (by omega) s
            obtain ⟨U, hext9, hco9, hst⟩ := hst.settle_ (.tail (.tail (.head)))
            have hs9 := Sl.of_flat (hco9 j cR).pre (Flat.mono _ _ _ _ _ _ _ hext9 hfu) (hlu.trans hl3.1) hcapR
            have hst := hst.newFact (Mono.and (Sl.mono (kDn 100000001) _ _) (Sl.mono (kRn 100000001) _ _)) ⟨hst.fact.1.lift rfl (upD (by omega)), hs9⟩
            refine wp_region_lit ?_
            refine l_op rfl (r_loada hst rfl Ta26 (.head _) (.cons rfl (.cons rfl (.nil))) rfl rfl ?_)
            clear hst; intro a hst
            refine l_op rfl (r_store hst rfl rfl rfl Tsz26 rfl (.tail (.head (.here (.here (.nil (Nat.zero_le _)))))) ?_)
            clear hst; intro w hst
            refine wpList_nil ?_
            refine then_n ?_
            refine wp_ret ?_
            refine then_r ?_
            refine then_r ?_
            refine x_ret (rs := [.cell 6 26]) hst rfl (.agg rfl Ta26 (.tail _ (.head _)) rfl (.nil)) ?_
            exact ⟨_, _, _, _, rfl, hst.fact.1, hst.fact.2⟩
          try simp only [n1, n2, n3, n4, n5, n6, n7, n8, n9, na, nb] at hc7
          refine wp_seq ?_
          refine wp_region_lit ?_
          refine l_op rfl (r_bin hst rfl rfl rfl rfl rfl ?_)
          clear hst; intro a hst
          refine l_op rfl (r_assign hst rfl rfl ?_)
          clear hst; intro a hst
          refine wpList_nil ?_
          refine then_n ?_
          refine x_cond hst rfl (fun hc8 => ?_) (fun hc8 => ?_)
          · try simp only [n1, n2, n3, n4, n5, n6, n7, n8, n9, na, nb] at hc8
            refine wp_region_lit ?_
            refine l_op rfl (r_fieldAddr hst rfl Tf26_1 rfl ?_)
            clear hst; intro a hst
            refine l_op rfl (r_loads hst rfl Ts24 (.head _) rfl rfl ?_)
            clear hst; intro a hst
            refine l_op rfl (r_move hst rfl rfl ?_)
            clear hst; intro a hst
            refine l_op rfl (r_move hst rfl rfl ?_)
            clear hst; intro a hst
            refine l_op rfl (r_build (ps := [(0, (Operand.const (Value.int IntKind.i64 1))), (1, (Operand.tmp 68))]) hst Tso58 Tz58 (.cons Tf58_0 rfl rfl (.here (.nil (Nat.zero_le _))) (.cons Tf58_1 rfl rfl (.there (.here (.nil (Nat.zero_le _)))) (.nil))) rfl ?_)
            clear hst; intro a hst
            refine l_op rfl (r_indexAddr hst rfl rfl Tu24 Tsz60 (hz37a) (by omega) rfl ?_)
            clear hst; intro a hst
            refine l_op rfl (r_fieldAddr hst rfl Tf60_3 rfl ?_)
            clear hst; intro a hst
            refine l_op rfl (r_store hst rfl rfl rfl Tsz58 rfl (.tail (.tail (.head (spl_arr (i := z37.toNat) (sz := 11) (f := 3) (by omega) (by simp only [List.length_cons, List.length_nil]; omega))))) ?_)
            clear hst; intro w hst
            refine wpList_nil ?_
            refine inb_n ?_
            refine then_n ?_
            refine wp_seq ?_
            obtain ⟨us, hfu, hlu⟩ := rule_body hst.fact.2 (i := z37.toNat) (by omega) (var_rep s _ _)
            obtain ⟨U, hext9, hco9, hst⟩ := hst.settle_ (.tail (.tail (.head)))
            have hs9 := Sl.of_flat (hco9 j cR).pre (Flat.mono _ _ _ _ _ _ _ hext9 hfu) (hlu.trans hl3.1) hcapR
            have hst := hst.newFact (Mono.and (Sl.mono (kDn 100000001) _ _) (Sl.mono (kRn 100000001) _ _)) ⟨hst.fact.1.lift rfl (upD (by omega)), hs9⟩
            refine wp_region_lit ?_
            refine l_op rfl (r_loada hst rfl Ta26 (.head _) (.cons rfl (.cons rfl (.nil))) rfl rfl ?_)
            clear hst; intro a hst
            refine l_op rfl (r_store hst rfl rfl rfl Tsz26 rfl (.tail (.head (.here (.here (.nil (Nat.zero_le _)))))) ?_)
            clear hst; intro w hst
            refine wpList_nil ?_
            refine then_n ?_
            refine wp_ret ?_
            refine then_r ?_
            refine then_r ?_
            refine x_ret (rs := [.cell 6 26]) hst rfl (.agg rfl Ta26 (.tail _ (.head _)) rfl (.nil)) ?_
            exact ⟨_, _, _, _, rfl, hst.fact.1, hst.fact.2⟩
          try simp only [n1, n2, n3, n4, n5, n6, n7, n8, n9, na, nb] at hc8
          refine wp_seq ?_
          refine wp_region_lit ?_
          refine l_op rfl (r_bin hst rfl rfl rfl rfl rfl ?_)
          clear hst; intro a hst
          refine l_op rfl (r_assign hst rfl rfl ?_)
          clear hst; intro a hst
          refine wpList_nil ?_
          refine then_n ?_
          refine x_cond hst rfl (fun hc9 => ?_) (fun hc9 => ?_)
          · try simp only [n1, n2, n3, n4, n5, n6, n7, n8, n9, na, nb] at hc9
            obtain ⟨tP, AP, lP, cP, htP, hnP, hvP, hlP⟩ := rule_at hst.fact.2 (i := z37.toNat) (by omega)
            obtain ⟨nsP, hcP, hfP⟩ := hvP.to_flat
            have hkP := hvP.len
            have hxP : nsP.length = lP * 6 := by have := hfP.1; rw [hkP.1] at this; exact this
            have h1P := hfP.one_cells (fun _ _ _ _ => oneE)
            have hst := (hst.row_nil 58 (sz := 6) (by decide)).newFact (Mono.and (Mono.and (Sl.mono kD _ _) (Flat.mono kR _ _)) (Mono.and (Cont.mono _ _) (Flat.mono kE _ _))) ⟨hst.fact, hcP, hfP⟩
            refine x_drawf (by kernel_rfl) hst (.cons_cons _ (.cons _ (.cons _ (List.nil_sublist _)))) ?_
            clear hst; intro w hS hst
            refine f_take (i := 0) hS hst (.cons_cons _ (.cons _ (.cons _ (List.nil_sublist _)))) rfl rfl rfl rfl (by kernel_rfl) (by kernel_rfl) (by kernel_rfl) (fun _ _ _ h => h) (fun _ _ _ _ hst => q_fieldAddr hst rfl Tf26_1) ?_
            clear hst; intro a hst
            refine f_take (i := 1) hS hst (.cons_cons _ (.cons _ (.cons _ (List.nil_sublist _)))) rfl rfl rfl rfl (by kernel_rfl) (by kernel_rfl) (by kernel_rfl) (fun _ _ _ h => h) (fun _ _ _ _ hst => q_loads hst rfl Ts24 (.head _) rfl) ?_
            clear hst; intro a hst
            refine f_take (i := 2) hS hst (.cons_cons _ (.cons _ (.cons _ (List.nil_sublist _)))) rfl rfl rfl rfl (by kernel_rfl) (by kernel_rfl) (by kernel_rfl) (fun _ _ _ h => h) (fun _ _ _ _ hst => q_move hst rfl) ?_
            clear hst; intro a hst
            refine f_take (i := 3) hS hst (.cons_cons _ (.cons _ (.cons _ (List.nil_sublist _)))) rfl rfl rfl rfl (by kernel_rfl) (by kernel_rfl) (by kernel_rfl) (fun _ _ _ h => h) (fun _ _ _ _ hst => q_fieldAddr hst rfl Tf26_1) ?_
            clear hst; intro a hst
            refine f_take (i := 4) hS hst (.cons_cons _ (.cons _ (.cons _ (List.nil_sublist _)))) rfl rfl rfl rfl (by kernel_rfl) (by kernel_rfl) (by kernel_rfl) (fun _ _ _ h => h) (fun _ _ _ _ hst => q_loads hst rfl Ts24 (.head _) rfl) ?_
            clear hst; intro a hst
            refine f_take (i := 5) hS hst (.cons_cons _ (.cons _ (.cons _ (List.nil_sublist _)))) rfl rfl rfl rfl (by kernel_rfl) (by kernel_rfl) (by kernel_rfl) (fun _ _ _ h => h) (fun _ _ _ _ hst => q_move hst rfl) ?_
            clear hst; intro a hst
            refine f_take (i := 6) hS hst (.cons_cons _ (.cons _ (.cons _ (List.nil_sublist _)))) rfl rfl rfl rfl (by kernel_rfl) (by kernel_rfl) (by kernel_rfl) (fun _ _ _ h => h) (fun _ _ _ _ hst => q_indexAddr hst rfl rfl Tu24 Tsz60 (hz37a) (by omega)) ?_
            clear hst; intro a hst
            refine f_take (i := 7) hS hst (.cons_cons _ (.cons _ (.cons _ (List.nil_sublist _)))) rfl rfl rfl rfl (by kernel_rfl) (by kernel_rfl) (by kernel_rfl) (fun _ _ _ h => h) (fun _ _ _ _ hst => q_fieldAddr hst rfl Tf60_1) ?_
            clear hst; intro a hst
            refine f_take (i := 10) hS hst (.cons_cons _ (.cons _ (.cons _ (List.nil_sublist _)))) rfl rfl rfl rfl (by kernel_rfl) (by kernel_rfl) (by kernel_rfl) (fun _ _ _ h => h) (fun _ _ _ _ hst => q_move hst rfl) ?_
            clear hst; intro a hst
            refine f_take (i := 11) hS hst (.cons_cons _ (.cons _ (.cons _ (List.nil_sublist _)))) rfl rfl rfl rfl (by kernel_rfl) (by kernel_rfl) (by kernel_rfl) (fun _ _ _ h => h) (fun _ _ _ _ hst => q_build (ps := [(0, (Operand.const (Value.int IntKind.i64 1))), (1, (Operand.tmp 84))]) hst Tso58 Tz58 (.cons Tf58_0 rfl rfl (.here (.nil (Nat.zero_le _))) (.cons Tf58_1 rfl rfl (.there (.here (.nil (Nat.zero_le _)))) (.nil)))) ?_
            clear hst; intro a hst
            refine f_two (i := 8) (j := 12) (by kernel_rfl) rfl rfl rfl rfl (r_loads hst rfl Ts56 (.tail _ (.tail _ (.head _))) (arr_nth (i := z37.toNat) (sz := 11) (f := 1) (by omega) hnP) rfl ?_) (r_slice1 hst Tu56 Tsz58 Tz58 rfl (by decide) (by decide) rfl rfl rfl rfl ?_)
            · clear hst; intro a hst
              refine ⟨hst.kept (.cons_cons _ (.cons _ (.cons _ (List.nil_sublist _)))), ?_⟩
              refine f_two (i := 9) (j := 12) (by kernel_rfl) rfl rfl rfl rfl (r_appendS hst rfl rfl Tet56 hst.fact.2.2.1 hxP h1P (Cont.nil _ _ _) rfl (by omega) (by omega) rfl ?_) (r_slice1 hst Tu56 Tsz58 Tz58 rfl (by decide) (by decide) rfl rfl rfl rfl ?_)
              · clear hst; intro a v w U hext hcont hv hst
                obtain ⟨A5, c5, rfl, hc5_⟩ := hv
                have hst := hst.newFact (Mono.and (Ext.monoF _ _) (Mono.and (Cont.mono _ _) hS.mono)) ⟨hst.fact.1, hcont, hst.fact.2⟩
                refine ⟨hst.kept (.cons_cons _ (.cons _ (.cons _ (List.nil_sublist _)))), ?_⟩
                refine f_one (i := 12) (by kernel_rfl) rfl rfl (r_slice1 hst Tu56 Tsz58 Tz58 rfl (by decide) (by decide) rfl rfl rfl rfl ?_)
                clear hst; intro a w g11 hst
                refine ⟨hst.kept (.cons _ (.cons_cons _ (.cons _ (.cons _ (List.nil_sublist _))))), ?_⟩
                refine f_one (i := 13) (by kernel_rfl) rfl rfl (r_append hst rfl rfl Tet56 (.head _) rfl (by decide) rfl hst.fact.2.1 (by simp [hxP]) (by omega) (by omega) rfl ?_)
                clear hst; intro a v w U hext hcont hv hst
                obtain ⟨A6, c6, rfl, hc6_⟩ := hv
                have hst := hst.newFact (Mono.and (Ext.monoF _ _) (Mono.and (Cont.mono _ _) (Mono.and (Cont.mono _ _) hS.mono))) ⟨hst.fact.1, hcont, hst.fact.2⟩
                refine ⟨hst.kept (.cons _ (.cons_cons _ (.cons _ (.cons _ (List.nil_sublist _))))), ?_⟩
                refine f_take (i := 14) hS hst (.cons _ (.cons_cons _ (.cons _ (.cons _ (List.nil_sublist _))))) rfl rfl rfl rfl (by kernel_rfl) (by kernel_rfl) (by kernel_rfl) (fun _ _ _ h => h) (fun _ _ _ _ hst => q_indexAddr hst rfl rfl Tu24 Tsz60 (hz37a) (by omega)) ?_
                clear hst; intro a hst
                refine f_take (i := 15) hS hst (.cons _ (.cons_cons _ (.cons _ (.cons _ (List.nil_sublist _))))) rfl rfl rfl rfl (by kernel_rfl) (by kernel_rfl) (by kernel_rfl) (fun _ _ _ h => h) (fun _ _ _ _ hst => q_fieldAddr hst rfl Tf60_1) ?_
                clear hst; intro a hst
                refine f_one (i := 16) (by kernel_rfl) rfl rfl (r_store hst rfl rfl rfl Tsz56 rfl (.tail (.tail (.tail (.head (spl_arr (i := z37.toNat) (sz := 11) (f := 1) (by omega) (by simp only [List.length_cons, List.length_nil]; omega)))))) ?_)
                clear hst; intro w hst
                refine ⟨hst.kept (.cons _ (.cons_cons _ (.cons _ (.cons _ (List.nil_sublist _))))), ?_⟩
                refine f_done (by kernel_rfl) ?_
                have hsP := Sl.of_flat hst.fact.2.1 ((Flat.append (Flat.nil kE _ _) hst.fact.2.2.2.2.2).snoc (var_rep s _ _)) (by simp [hkP.1]) (by omega) (by omega)
                have hst := hst.newFact (Mono.and (Sl.mono kE _ _) (Mono.and (Sl.mono kD _ _) (Flat.mono _ _ _))) ⟨hsP, hst.fact.2.2.2.1⟩
                refine inb_n ?_
                refine then_n ?_
                refine wp_seq ?_
                obtain ⟨us, hfu, hlu⟩ := rule_pats hst.fact.2.2 (i := z37.toNat) (by omega) hst.fact.1 (by simp; omega)
                obtain ⟨U, hext9, hco9, hst⟩ := hst.settle_ (.tail (.tail (.tail (.head))))
                have hs9 := Sl.of_flat (hco9 j cR).pre (Flat.mono _ _ _ _ _ _ _ hext9 hfu) (hlu.trans hl3.1) hcapR
                have hst := hst.newFact (Mono.and (Sl.mono (kDn 100000001) _ _) (Sl.mono (kRn 100000001) _ _)) ⟨hst.fact.2.1.lift rfl (upD (by omega)), hs9⟩
                refine wp_region_lit ?_
                refine l_op rfl (r_loada hst rfl Ta26 (.tail _ (.head _)) (.cons rfl (.cons rfl (.nil))) rfl rfl ?_)
                clear hst; intro a hst
                refine l_op rfl (r_store hst rfl rfl rfl Tsz26 rfl (.tail (.tail (.head (.here (.here (.nil (Nat.zero_le _))))))) ?_)
                clear hst; intro w hst
                refine wpList_nil ?_
                refine then_n ?_
                refine wp_ret ?_
                refine then_r ?_
                refine then_r ?_
                refine x_ret (rs := [.cell 6 26]) hst rfl (.agg rfl Ta26 (.tail _ (.tail _ (.head _))) rfl (.nil)) ?_
                exact ⟨_, _, _, _, rfl, hst.fact.1, hst.fact.2⟩
              clear hst; intro a w g11 hst
              refine ⟨hst.kept (.cons _ (.cons_cons _ (.cons _ (.cons _ (List.nil_sublist _))))), ?_⟩
              refine f_one (i := 9) (by kernel_rfl) rfl rfl (r_appendS hst rfl rfl Tet56 hst.fact.2.2.1 hxP h1P (Cont.nil _ _ _) rfl (by omega) (by omega) rfl ?_)
              clear hst; intro a v w U hext hcont hv hst
              obtain ⟨A5, c5, rfl, hc5_⟩ := hv
              have hst := hst.newFact (Mono.and (Ext.monoF _ _) (Mono.and (Cont.mono _ _) hS.mono)) ⟨hst.fact.1, hcont, hst.fact.2⟩
              refine ⟨hst.kept (.cons _ (.cons_cons _ (.cons _ (.cons _ (List.nil_sublist _))))), ?_⟩
              refine f_one (i := 13) (by kernel_rfl) rfl rfl (r_append hst rfl rfl Tet56 (.head _) rfl (by decide) rfl hst.fact.2.1 (by simp [hxP]) (by omega) (by omega) rfl ?_)
              clear hst; intro a v w U hext hcont hv hst
              obtain ⟨A6, c6, rfl, hc6_⟩ := hv
              have hst := hst.newFact (Mono.and (Ext.monoF _ _) (Mono.and (Cont.mono _ _) (Mono.and (Cont.mono _ _) hS.mono))) ⟨hst.fact.1, hcont, hst.fact.2⟩
              refine ⟨hst.kept (.cons _ (.cons_cons _ (.cons _ (.cons _ (List.nil_sublist _))))), ?_⟩
              refine f_take (i := 14) hS hst (.cons _ (.cons_cons _ (.cons _ (.cons _ (List.nil_sublist _))))) rfl rfl rfl rfl (by kernel_rfl) (by kernel_rfl) (by kernel_rfl) (fun _ _ _ h => h) (fun _ _ _ _ hst => q_indexAddr hst rfl rfl Tu24 Tsz60 (hz37a) (by omega)) ?_
              clear hst; intro a hst
              refine f_take (i := 15) hS hst (.cons _ (.cons_cons _ (.cons _ (.cons _ (List.nil_sublist _))))) rfl rfl rfl rfl (by kernel_rfl) (by kernel_rfl) (by kernel_rfl) (fun _ _ _ h => h) (fun _ _ _ _ hst => q_fieldAddr hst rfl Tf60_1) ?_
              clear hst; intro a hst
              refine f_one (i := 16) (by kernel_rfl) rfl rfl (r_store hst rfl rfl rfl Tsz56 rfl (.tail (.tail (.tail (.head (spl_arr (i := z37.toNat) (sz := 11) (f := 1) (by omega) (by simp only [List.length_cons, List.length_nil]; omega)))))) ?_)
              clear hst; intro w hst
              refine ⟨hst.kept (.cons _ (.cons_cons _ (.cons _ (.cons _ (List.nil_sublist _))))), ?_⟩
              refine f_done (by kernel_rfl) ?_
              have hsP := Sl.of_flat hst.fact.2.1 ((Flat.append (Flat.nil kE _ _) hst.fact.2.2.2.2.2).snoc (var_rep s _ _)) (by simp [hkP.1]) (by omega) (by omega)
              have hst := hst.newFact (Mono.and (Sl.mono kE _ _) (Mono.and (Sl.mono kD _ _) (Flat.mono _ _ _))) ⟨hsP, hst.fact.2.2.2.1⟩
              refine inb_n ?_
              refine then_n ?_
              refine wp_seq ?_
              obtain ⟨us, hfu, hlu⟩ := rule_pats hst.fact.2.2 (i := z37.toNat) (by omega) hst.fact.1 (by simp; omega)
              obtain ⟨U, hext9, hco9, hst⟩ := hst.settle_ (.tail (.tail (.tail (.head))))
              have hs9 := Sl.of_flat (hco9 j cR).pre (Flat.mono _ _ _ _ _ _ _ hext9 hfu) (hlu.trans hl3.1) hcapR
              have hst := hst.newFact (Mono.and (Sl.mono (kDn 100000001) _ _) (Sl.mono (kRn 100000001) _ _)) ⟨hst.fact.2.1.lift rfl (upD (by omega)), hs9⟩
              refine wp_region_lit ?_
              refine l_op rfl (r_loada hst rfl Ta26 (.tail _ (.head _)) (.cons rfl (.cons rfl (.nil))) rfl rfl ?_)
              clear hst; intro a hst
              refine l_op rfl (r_store hst rfl rfl rfl Tsz26 rfl (.tail (.tail (.head (.here (.here (.nil (Nat.zero_le _))))))) ?_)
              clear hst; intro w hst
              refine wpList_nil ?_
              refine then_n ?_
              refine wp_ret ?_
              refine then_r ?_
              refine then_r ?_
              refine x_ret (rs := [.cell 6 26]) hst rfl (.agg rfl Ta26 (.tail _ (.tail _ (.head _))) rfl (.nil)) ?_
              exact ⟨_, _, _, _, rfl, hst.fact.1, hst.fact.2⟩
            clear hst; intro a w g11 hst
            refine ⟨hst.kept (.cons _ (.cons_cons _ (.cons _ (.cons _ (List.nil_sublist _))))), ?_⟩
            refine f_one (i := 8) (by kernel_rfl) rfl rfl (r_loads hst rfl Ts56 (.tail _ (.tail _ (.tail _ (.head _)))) (arr_nth (i := z37.toNat) (sz := 11) (f := 1) (by omega) hnP) rfl ?_)
            clear hst; intro a hst
            refine ⟨hst.kept (.cons _ (.cons_cons _ (.cons _ (.cons _ (List.nil_sublist _))))), ?_⟩
            refine f_one (i := 9) (by kernel_rfl) rfl rfl (r_appendS hst rfl rfl Tet56 hst.fact.2.2.1 hxP h1P (Cont.nil _ _ _) rfl (by omega) (by omega) rfl ?_)
            clear hst; intro a v w U hext hcont hv hst
            obtain ⟨A5, c5, rfl, hc5_⟩ := hv
            have hst := hst.newFact (Mono.and (Ext.monoF _ _) (Mono.and (Cont.mono _ _) hS.mono)) ⟨hst.fact.1, hcont, hst.fact.2⟩
            refine ⟨hst.kept (.cons _ (.cons_cons _ (.cons _ (.cons _ (List.nil_sublist _))))), ?_⟩
            refine f_one (i := 13) (by kernel_rfl) rfl rfl (r_append hst rfl rfl Tet56 (.head _) rfl (by decide) rfl hst.fact.2.1 (by simp [hxP]) (by omega) (by omega) rfl ?_)
            clear hst; intro a v w U hext hcont hv hst
            obtain ⟨A6, c6, rfl, hc6_⟩ := hv
            have hst := hst.newFact (Mono.and (Ext.monoF _ _) (Mono.and (Cont.mono _ _) (Mono.and (Cont.mono _ _) hS.mono))) ⟨hst.fact.1, hcont, hst.fact.2⟩
            refine ⟨hst.kept (.cons _ (.cons_cons _ (.cons _ (.cons _ (List.nil_sublist _))))), ?_⟩
            refine f_take (i := 14) hS hst (.cons _ (.cons_cons _ (.cons _ (.cons _ (List.nil_sublist _))))) rfl rfl rfl rfl (by kernel_rfl) (by kernel_rfl) (by kernel_rfl) (fun _ _ _ h => h) (fun _ _ _ _ hst => q_indexAddr hst rfl rfl Tu24 Tsz60 (hz37a) (by omega)) ?_
            clear hst; intro a hst
            refine f_take (i := 15) hS hst (.cons _ (.cons_cons _ (.cons _ (.cons _ (List.nil_sublist _))))) rfl rfl rfl rfl (by kernel_rfl) (by kernel_rfl) (by kernel_rfl) (fun _ _ _ h => h) (fun _ _ _ _ hst => q_fieldAddr hst rfl Tf60_1) ?_
            clear hst; intro a hst
            refine f_one (i := 16) (by kernel_rfl) rfl rfl (r_store hst rfl rfl rfl Tsz56 rfl (.tail (.tail (.tail (.head (spl_arr (i := z37.toNat) (sz := 11) (f := 1) (by omega) (by simp only [List.length_cons, List.length_nil]; omega)))))) ?_)
            clear hst; intro w hst
            refine ⟨hst.kept (.cons _ (.cons_cons _ (.cons _ (.cons _ (List.nil_sublist _))))), ?_⟩
            refine f_done (by kernel_rfl) ?_
            have hsP := Sl.of_flat hst.fact.2.1 ((Flat.append (Flat.nil kE _ _) hst.fact.2.2.2.2.2).snoc (var_rep s _ _)) (by simp [hkP.1]) (by omega) (by omega)
            have hst := hst.newFact (Mono.and (Sl.mono kE _ _) (Mono.and (Sl.mono kD _ _) (Flat.mono _ _ _))) ⟨hsP, hst.fact.2.2.2.1⟩
            refine inb_n ?_
            refine then_n ?_
            refine wp_seq ?_
            obtain ⟨us, hfu, hlu⟩ := rule_pats hst.fact.2.2 (i := z37.toNat) (by omega) hst.fact.1 (by simp; omega)
            obtain ⟨U, hext9, hco9, hst⟩ := hst.settle_ (.tail (.tail (.tail (.head))))
            have hs9 := Sl.of_flat (hco9 j cR).pre (Flat.mono _ _ _ _ _ _ _ hext9 hfu) (hlu.trans hl3.1) hcapR
            have hst := hst.newFact (Mono.and (Sl.mono (kDn 100000001) _ _) (Sl.mono (kRn 100000001) _ _)) ⟨hst.fact.2.1.lift rfl (upD (by omega)), hs9⟩
            refine wp_region_lit ?_
            refine l_op rfl (r_loada hst rfl Ta26 (.tail _ (.head _)) (.cons rfl (.cons rfl (.nil))) rfl rfl ?_)
            clear hst; intro a hst
            refine l_op rfl (r_store hst rfl rfl rfl Tsz26 rfl (.tail (.tail (.head (.here (.here (.nil (Nat.zero_le _))))))) ?_)
            clear hst; intro w hst
            refine wpList_nil ?_
            refine then_n ?_
            refine wp_ret ?_
            refine then_r ?_
            refine then_r ?_
            refine x_ret (rs := [.cell 6 26]) hst rfl (.agg rfl Ta26 (.tail _ (.tail _ (.head _))) rfl (.nil)) ?_
            exact ⟨_, _, _, _, rfl, hst.fact.1, hst.fact.2⟩
          try simp only [n1, n2, n3, n4, n5, n6, n7, n8, n9, na, nb] at hc9
          refine wp_seq ?_
          refine wp_region_lit ?_
          refine l_op rfl (r_bin hst rfl rfl rfl rfl rfl ?_)
          clear hst; intro a hst
          refine l_op rfl (r_assign hst rfl rfl ?_)
          clear hst; intro a hst
          refine wpList_nil ?_
          refine then_n ?_
          refine x_cond hst rfl (fun hc10 => ?_) (fun hc10 => ?_)
          · try simp only [n1, n2, n3, n4, n5, n6, n7, n8, n9, na, nb] at hc10
            refine wp_region_lit ?_
            refine l_op rfl (r_fieldAddr hst rfl Tf26_1 rfl ?_)
            clear hst; intro a hst
            refine l_op rfl (r_loads hst rfl Ts24 (.head _) rfl rfl ?_)
            clear hst; intro a hst
            refine l_op rfl (r_move hst rfl rfl ?_)
            clear hst; intro a hst
            refine l_op rfl (r_move hst rfl rfl ?_)
            clear hst; intro a hst
            refine l_op rfl (r_build (ps := [(0, (Operand.const (Value.int IntKind.i64 1))), (1, (Operand.tmp 95))]) hst Tso58 Tz58 (.cons Tf58_0 rfl rfl (.here (.nil (Nat.zero_le _))) (.cons Tf58_1 rfl rfl (.there (.here (.nil (Nat.zero_le _)))) (.nil))) rfl ?_)
            clear hst; intro a hst
            refine l_op rfl (r_slice1 hst Tu56 Tsz58 Tz58 rfl (by decide) (by decide) rfl rfl rfl rfl ?_)
            clear hst; intro a w g11 hst
            refine l_op rfl (r_indexAddr hst rfl rfl Tu24 Tsz60 (hz37a) (by omega) rfl ?_)
            clear hst; intro a hst
            refine l_op rfl (r_fieldAddr hst rfl Tf60_2 rfl ?_)
            clear hst; intro a hst
            obtain ⟨U, hextG, hcontG, hst⟩ := hst.settle_ (.head)
            have hsG := Sl.of_flat (hcontG 1 1) (Flat.one (K := kE) (var_rep s _ _)) rfl (by decide)
            have hst := hst.addFact (Sl.mono kE _ _) hsG
            refine l_op rfl (r_store hst rfl rfl rfl Tsz56 rfl (.tail (.tail (.head (spl_arr (i := z37.toNat) (sz := 11) (f := 2) (by omega) (by simp only [List.length_cons, List.length_nil]; omega))))) ?_)
            clear hst; intro w hst
            refine wpList_nil ?_
            refine inb_n ?_
            refine then_n ?_
            refine wp_seq ?_
            obtain ⟨us, hfu, hlu⟩ := rule_guard hst.fact.2.2 (i := z37.toNat) (by omega) hst.fact.1
            obtain ⟨U, hext9, hco9, hst⟩ := hst.settle_ (.tail (.tail (.head)))
            have hs9 := Sl.of_flat (hco9 j cR).pre (Flat.mono _ _ _ _ _ _ _ hext9 hfu) (hlu.trans hl3.1) hcapR
            have hst := hst.newFact (Mono.and (Sl.mono (kDn 100000001) _ _) (Sl.mono (kRn 100000001) _ _)) ⟨hst.fact.2.1.lift rfl (upD (by omega)), hs9⟩
            refine wp_region_lit ?_
            refine l_op rfl (r_loada hst rfl Ta26 (.head _) (.cons rfl (.cons rfl (.nil))) rfl rfl ?_)
            clear hst; intro a hst
            refine l_op rfl (r_store hst rfl rfl rfl Tsz26 rfl (.tail (.head (.here (.here (.nil (Nat.zero_le _)))))) ?_)
            clear hst; intro w hst
            refine wpList_nil ?_
            refine then_n ?_
            refine wp_ret ?_
            refine then_r ?_
            refine then_r ?_
            refine x_ret (rs := [.cell 6 26]) hst rfl (.agg rfl Ta26 (.tail _ (.head _)) rfl (.nil)) ?_
            exact ⟨_, _, _, _, rfl, hst.fact.1, hst.fact.2⟩
          try simp only [n1, n2, n3, n4, n5, n6, n7, n8, n9, na, nb] at hc10
          obtain ⟨U, hext8, hco8, hst⟩ := hst.settle_ (.tail (.tail (.head)))
          have hs8 := Sl.of_flat (hco8 j cR).pre hst.fact.2 hl3.1 hcapR
          obtain ⟨n1, hco1, hfl1⟩ := (hs8.front z37.toNat (by omega)).to_flat
          obtain ⟨n2, hco2, hfl2⟩ := (hs8.back (z37 + 1).toNat (by omega)).to_flat
          have hln1 : n1.length = z37.toNat * 11 := by have := hfl1.1; rw [List.length_take, hl3.1, Nat.min_eq_left (by omega)] at this; exact this
          have hln2 : n2.length = (j - (z37 + 1).toNat) * 11 := by have := hfl2.1; rw [List.length_drop, hl3.1] at this; exact this
          have hon1 := hfl1.one_cells (fun _ _ _ _ => oneR)
          have hon2 := hfl2.one_cells (fun _ _ _ _ => oneR)
          have hst := (hst.row_nil 60 (sz := 11) (by decide)).newFact (Mono.and (Sl.mono kD _ _) (Mono.and (Mono.and (Cont.mono _ _) (Flat.mono kR _ _)) (Mono.and (Cont.mono _ _) (Flat.mono kR _ _)))) ⟨hst.fact.1, ⟨hco1, hfl1⟩, ⟨hco2, hfl2⟩⟩
          refine x_drawf (by kernel_rfl) hst (.cons _ (.cons _ (List.nil_sublist _))) ?_
          clear hst; intro w hS hst
          refine f_take (i := 0) hS hst (.cons _ (.cons _ (List.nil_sublist _))) rfl rfl rfl rfl (by kernel_rfl) (by kernel_rfl) (by kernel_rfl) (fun _ _ _ h => h) (fun _ _ _ _ hst => q_fieldAddr hst rfl Tf26_1) ?_
          clear hst; intro a hst
          refine f_take (i := 2) hS hst (.cons _ (.cons _ (List.nil_sublist _))) rfl rfl rfl rfl (by kernel_rfl) (by kernel_rfl) (by kernel_rfl) (fun _ _ _ h => h) (fun _ _ _ _ hst => q_move hst rfl) ?_
          clear hst; intro a hst
          refine f_take (i := 5) hS hst (.cons _ (.cons _ (List.nil_sublist _))) rfl rfl rfl rfl (by kernel_rfl) (by kernel_rfl) (by kernel_rfl) (fun _ _ _ h => h) (fun _ _ _ _ hst => q_fieldAddr hst rfl Tf26_1) ?_
          clear hst; intro a hst
          refine f_take (i := 7) hS hst (.cons _ (.cons _ (List.nil_sublist _))) rfl rfl rfl rfl (by kernel_rfl) (by kernel_rfl) (by kernel_rfl) (fun _ _ _ h => h) (fun _ _ _ _ hst => q_move hst rfl) ?_
          clear hst; intro a hst
          refine f_take (i := 8) hS hst (.cons _ (.cons _ (List.nil_sublist _))) rfl rfl rfl rfl (by kernel_rfl) (by kernel_rfl) (by kernel_rfl) (fun _ _ _ h => h) (fun _ _ _ _ hst => q_bin hst rfl rfl rfl rfl) ?_
          clear hst; intro a hst
          rw [wrap_in _ (by omega) (by omega)] at hst
          refine f_two (i := 1) (j := 6) (by kernel_rfl) rfl rfl rfl rfl (r_loads hst rfl Ts24 (.head _) rfl rfl ?_) (r_loads hst rfl Ts24 (.head _) rfl rfl ?_)
          · clear hst; intro a hst
            refine ⟨hst.kept (.cons _ (.cons _ (List.nil_sublist _))), ?_⟩
            refine f_take (i := 3) hS hst (.cons _ (.cons _ (List.nil_sublist _))) rfl rfl rfl rfl (by kernel_rfl) (by kernel_rfl) (by kernel_rfl) (fun _ _ _ h => h) (fun _ _ _ _ hst => q_slicehi hst rfl rfl Tu24 Tsz60 (hz37a) (by omega)) ?_
            clear hst; intro a hst
            refine f_two (i := 4) (j := 6) (by kernel_rfl) rfl rfl rfl rfl (r_appendS hst rfl rfl Tet24 hst.fact.2.2.1.1 hln1 hon1 (Cont.nil _ _ _) rfl (by omega) (by omega) rfl ?_) (r_loads hst rfl Ts24 (.head _) rfl rfl ?_)
            · clear hst; intro a v w U hext hcont hv hst
              obtain ⟨A5, c5, rfl, hc5_⟩ := hv
              have hst := hst.newFact (Mono.and (Ext.monoF _ _) (Mono.and (Cont.mono _ _) hS.mono)) ⟨hst.fact.1, hcont, hst.fact.2⟩
              refine ⟨hst.kept (.cons _ (.cons _ (List.nil_sublist _))), ?_⟩
              refine f_one (i := 6) (by kernel_rfl) rfl rfl (r_loads hst rfl Ts24 (.head _) rfl rfl ?_)
              clear hst; intro a hst
              refine ⟨hst.kept (.cons _ (.cons _ (List.nil_sublist _))), ?_⟩
              refine f_take (i := 9) hS hst (.cons _ (.cons _ (List.nil_sublist _))) rfl rfl rfl rfl (by kernel_rfl) (by kernel_rfl) (by kernel_rfl) (fun _ _ _ h => h) (fun _ _ _ _ hst => q_slicelo hst rfl rfl Tu24 Tsz60 ((by omega : (0 : Int) ≤ z37 + 1)) (by omega)) ?_
              clear hst; intro a hst
              refine f_one (i := 10) (by kernel_rfl) rfl rfl (r_appendS hst rfl rfl Tet24 hst.fact.2.2.2.2.1 hln2 hon2 hst.fact.2.1 (by simp [hln1]) (by omega) (by omega) rfl ?_)
              clear hst; intro a v w U hext hcont hv hst
              obtain ⟨A6, c6, rfl, hc6_⟩ := hv
              have hst := hst.newFact (Mono.and (Ext.monoF _ _) (Mono.and (Cont.mono _ _) (Mono.and (Cont.mono _ _) hS.mono))) ⟨hst.fact.1, hcont, hst.fact.2⟩
              refine ⟨hst.kept (.cons _ (.cons _ (List.nil_sublist _))), ?_⟩
              refine f_take (i := 11) hS hst (.cons _ (.cons _ (List.nil_sublist _))) rfl rfl rfl rfl (by kernel_rfl) (by kernel_rfl) (by kernel_rfl) (fun _ _ _ h => h) (fun _ _ _ _ hst => q_fieldAddr hst rfl Tf26_1) ?_
              clear hst; intro a hst
              refine f_one (i := 12) (by kernel_rfl) rfl rfl (r_store hst rfl rfl rfl Tsz24 rfl (.head (.there (.here (.nil (Nat.zero_le _))))) ?_)
              clear hst; intro w hst
              refine ⟨hst.kept (.cons _ (.cons _ (List.nil_sublist _))), ?_⟩
              refine f_done (by kernel_rfl) ?_
              have hsN := Sl.of_flat hst.fact.2.1 (Flat.append (Flat.append (Flat.nil kR _ _) hst.fact.2.2.2.2.1.2) hst.fact.2.2.2.2.2.2) (by simp [hl3.1]; omega) (by omega) (by omega)
              have hst := hst.newFact (Mono.and (Sl.mono kD _ _) (Sl.mono kR _ _)) ⟨hst.fact.2.2.2.1, hsN⟩
              refine inb_n ?_
              refine then_n ?_
              refine wp_seq ?_
              have hst := hst.newFact (Mono.and (Sl.mono (kDn 100000001) _ _) (Sl.mono (kRn 100000001) _ _)) ⟨hst.fact.1.lift rfl (upD (by omega)), hst.fact.2.lift rfl (upR (by omega))⟩
              refine wp_region_lit ?_
              refine l_op rfl (r_loada hst rfl Ta26 (.head _) (.cons rfl (.cons rfl (.nil))) rfl rfl ?_)
              clear hst; intro a hst
              refine l_op rfl (r_store hst rfl rfl rfl Tsz26 rfl (.tail (.head (.here (.here (.nil (Nat.zero_le _)))))) ?_)
              clear hst; intro w hst
              refine wpList_nil ?_
              refine then_n ?_
              refine wp_ret ?_
              refine then_r ?_
              refine then_r ?_
              refine x_ret (rs := [.cell 6 26]) hst rfl (.agg rfl Ta26 (.tail _ (.head _)) rfl (.nil)) ?_
              exact ⟨_, _, _, _, rfl, hst.fact.1, hst.fact.2⟩
            clear hst; intro a hst
            refine ⟨hst.kept (.cons _ (.cons _ (List.nil_sublist _))), ?_⟩
            refine f_take (i := 9) hS hst (.cons _ (.cons _ (List.nil_sublist _))) rfl rfl rfl rfl (by kernel_rfl) (by kernel_rfl) (by kernel_rfl) (fun _ _ _ h => h) (fun _ _ _ _ hst => q_slicelo hst rfl rfl Tu24 Tsz60 ((by omega : (0 : Int) ≤ z37 + 1)) (by omega)) ?_
            clear hst; intro a hst
            refine f_one (i := 4) (by kernel_rfl) rfl rfl (r_appendS hst rfl rfl Tet24 hst.fact.2.2.1.1 hln1 hon1 (Cont.nil _ _ _) rfl (by omega) (by omega) rfl ?_)
            clear hst; intro a v w U hext hcont hv hst
            obtain ⟨A5, c5, rfl, hc5_⟩ := hv
            have hst := hst.newFact (Mono.and (Ext.monoF _ _) (Mono.and (Cont.mono _ _) hS.mono)) ⟨hst.fact.1, hcont, hst.fact.2⟩
            refine ⟨hst.kept (.cons _ (.cons _ (List.nil_sublist _))), ?_⟩
            refine f_one (i := 10) (by kernel_rfl) rfl rfl (r_appendS hst rfl rfl Tet24 hst.fact.2.2.2.2.1 hln2 hon2 hst.fact.2.1 (by simp [hln1]) (by omega) (by omega) rfl ?_)
            clear hst; intro a v w U hext hcont hv hst
            obtain ⟨A6, c6, rfl, hc6_⟩ := hv
            have hst := hst.newFact (Mono.and (Ext.monoF _ _) (Mono.and (Cont.mono _ _) (Mono.and (Cont.mono _ _) hS.mono))) ⟨hst.fact.1, hcont, hst.fact.2⟩
            refine ⟨hst.kept (.cons _ (.cons _ (List.nil_sublist _))), ?_⟩
            refine f_take (i := 11) hS hst (.cons _ (.cons _ (List.nil_sublist _))) rfl rfl rfl rfl (by kernel_rfl) (by kernel_rfl) (by kernel_rfl) (fun _ _ _ h => h) (fun _ _ _ _ hst => q_fieldAddr hst rfl Tf26_1) ?_
            clear hst; intro a hst
            refine f_one (i := 12) (by kernel_rfl) rfl rfl (r_store hst rfl rfl rfl Tsz24 rfl (.head (.there (.here (.nil (Nat.zero_le _))))) ?_)
            clear hst; intro w hst
            refine ⟨hst.kept (.cons _ (.cons _ (List.nil_sublist _))), ?_⟩
            refine f_done (by kernel_rfl) ?_
            have hsN := Sl.of_flat hst.fact.2.1 (Flat.append (Flat.append (Flat.nil kR _ _) hst.fact.2.2.2.2.1.2) hst.fact.2.2.2.2.2.2) (by simp [hl3.1]; omega) (by omega) (by omega)
            have hst := hst.newFact (Mono.and (Sl.mono kD _ _) (Sl.mono kR _ _)) ⟨hst.fact.2.2.2.1, hsN⟩
            refine inb_n ?_
            refine then_n ?_
            refine wp_seq ?_
            have hst := hst.newFact (Mono.and (Sl.mono (kDn 100000001) _ _) (Sl.mono (kRn 100000001) _ _)) ⟨hst.fact.1.lift rfl (upD (by omega)), hst.fact.2.lift rfl (upR (by omega))⟩
            refine wp_region_lit ?_
            refine l_op rfl (r_loada hst rfl Ta26 (.head _) (.cons rfl (.cons rfl (.nil))) rfl rfl ?_)
            clear hst; intro a hst
            refine l_op rfl (r_store hst rfl rfl rfl Tsz26 rfl (.tail (.head (.here (.here (.nil (Nat.zero_le _)))))) ?_)
            clear hst; intro w hst
            refine wpList_nil ?_
            refine then_n ?_
            refine wp_ret ?_
            refine then_r ?_
            refine then_r ?_
            refine x_ret (rs := [.cell 6 26]) hst rfl (.agg rfl Ta26 (.tail _ (.head _)) rfl (.nil)) ?_
            exact ⟨_, _, _, _, rfl, hst.fact.1, hst.fact.2⟩
          clear hst; intro a hst
          refine ⟨hst.kept (.cons _ (.cons _ (List.nil_sublist _))), ?_⟩
          refine f_take (i := 9) hS hst (.cons _ (.cons _ (List.nil_sublist _))) rfl rfl rfl rfl (by kernel_rfl) (by kernel_rfl) (by kernel_rfl) (fun _ _ _ h => h) (fun _ _ _ _ hst => q_slicelo hst rfl rfl Tu24 Tsz60 ((by omega : (0 : Int) ≤ z37 + 1)) (by omega)) ?_
          clear hst; intro a hst
          refine f_one (i := 1) (by kernel_rfl) rfl rfl (r_loads hst rfl Ts24 (.head _) rfl rfl ?_)
          clear hst; intro a hst
          refine ⟨hst.kept (.cons _ (.cons _ (List.nil_sublist _))), ?_⟩
          refine f_take (i := 3) hS hst (.cons _ (.cons _ (List.nil_sublist _))) rfl rfl rfl rfl (by kernel_rfl) (by kernel_rfl) (by kernel_rfl) (fun _ _ _ h => h) (fun _ _ _ _ hst => q_slicehi hst rfl rfl Tu24 Tsz60 (hz37a) (by omega)) ?_
          clear hst; intro a hst
          refine f_one (i := 4) (by kernel_rfl) rfl rfl (r_appendS hst rfl rfl Tet24 hst.fact.2.2.1.1 hln1 hon1 (Cont.nil _ _ _) rfl (by omega) (by omega) rfl ?_)
          clear hst; intro a v w U hext hcont hv hst
          obtain ⟨A5, c5, rfl, hc5_⟩ := hv
          have hst := hst.newFact (Mono.and (Ext.monoF _ _) (Mono.and (Cont.mono _ _) hS.mono)) ⟨hst.fact.1, hcont, hst.fact.2⟩
          refine ⟨hst.kept (.cons _ (.cons _ (List.nil_sublist _))), ?_⟩
          refine f_one (i := 10) (by kernel_rfl) rfl rfl (r_appendS hst rfl rfl Tet24 hst.fact.2.2.2.2.1 hln2 hon2 hst.fact.2.1 (by simp [hln1]) (by omega) (by omega) rfl ?_)
          clear hst; intro a v w U hext hcont hv hst
          obtain ⟨A6, c6, rfl, hc6_⟩ := hv
          have hst := hst.newFact (Mono.and (Ext.monoF _ _) (Mono.and (Cont.mono _ _) (Mono.and (Cont.mono _ _) hS.mono))) ⟨hst.fact.1, hcont, hst.fact.2⟩
          refine ⟨hst.kept (.cons _ (.cons _ (List.nil_sublist _))), ?_⟩
          refine f_take (i := 11) hS hst (.cons _ (.cons _ (List.nil_sublist _))) rfl rfl rfl rfl (by kernel_rfl) (by kernel_rfl) (by kernel_rfl) (fun _ _ _ h => h) (fun _ _ _ _ hst => q_fieldAddr hst rfl Tf26_1) ?_
          clear hst; intro a hst
          refine f_one (i := 12) (by kernel_rfl) rfl rfl (r_store hst rfl rfl rfl Tsz24 rfl (.head (.there (.here (.nil (Nat.zero_le _))))) ?_)
          clear hst; intro w hst
          refine ⟨hst.kept (.cons _ (.cons _ (List.nil_sublist _))), ?_⟩
          refine f_done (by kernel_rfl) ?_
          have hsN := Sl.of_flat hst.fact.2.1 (Flat.append (Flat.append (Flat.nil kR _ _) hst.fact.2.2.2.2.1.2) hst.fact.2.2.2.2.2.2) (by simp [hl3.1]; omega) (by omega) (by omega)
          have hst := hst.newFact (Mono.and (Sl.mono kD _ _) (Sl.mono kR _ _)) ⟨hst.fact.2.2.2.1, hsN⟩
          refine inb_n ?_
          refine then_n ?_
          refine wp_seq ?_
          have hst := hst.newFact (Mono.and (Sl.mono (kDn 100000001) _ _) (Sl.mono (kRn 100000001) _ _)) ⟨hst.fact.1.lift rfl (upD (by omega)), hst.fact.2.lift rfl (upR (by omega))⟩
          refine wp_region_lit ?_
          refine l_op rfl (r_loada hst rfl Ta26 (.head _) (.cons rfl (.cons rfl (.nil))) rfl rfl ?_)
          clear hst; intro a hst
          refine l_op rfl (r_store hst rfl rfl rfl Tsz26 rfl (.tail (.head (.here (.here (.nil (Nat.zero_le _)))))) ?_)
          clear hst; intro w hst
          refine wpList_nil ?_
          refine then_n ?_
          refine wp_ret ?_
          refine then_r ?_
          refine then_r ?_
          refine x_ret (rs := [.cell 6 26]) hst rfl (.agg rfl Ta26 (.tail _ (.head _)) rfl (.nil)) ?_
          exact ⟨_, _, _, _, rfl, hst.fact.1, hst.fact.2⟩
        try simp only [n1, n2, n3, n4, n5, n6, n7, n8, n9, na, nb] at hc6
        refine wp_skip ?_
        exact ⟨_, by omega, by omega, _, _, _, _, _, _, _, _, _, _, _, (hst.keep (ds := [1, 2, 6, 7]) (.cons rfl (.cons rfl (.cons rfl (.cons rfl (.nil)))))), hAD, hAR⟩
      try simp only [n1, n2, n3, n4, n5, n6, n7, n8, n9, na, nb] at hc5
      refine l_off hst rfl rfl rfl (by decide) rfl rfl ?_
      clear hst; intro a hst
      refine l_off hst rfl rfl rfl (by decide) rfl rfl ?_
      clear hst; intro a hst
      refine l_off hst rfl rfl rfl (by decide) rfl rfl ?_
      clear hst; intro a hst
      refine l_op rfl (r_pick hst rfl rfl rfl ?_)
      clear hst; intro a hst
      refine wpList_nil ?_
      refine then_n ?_
      refine x_cond_f hst rfl ?_
      refine wp_skip ?_
      exact ⟨_, by omega, by omega, _, _, _, _, _, _, _, _, _, _, _, (hst.keep (ds := [1, 2, 6, 7]) (.cons rfl (.cons rfl (.cons rfl (.cons rfl (.nil)))))), hAD, hAR⟩
    refine wp_seq ?_
    refine wp_region_lit ?_
    refine l_op rfl (r_move hst rfl rfl ?_)
    clear hst; intro a hst
    refine l_op rfl (r_bin hst rfl rfl rfl rfl rfl ?_)
    clear hst; intro a hst
    refine wpList_nil ?_
    refine then_n ?_
    refine x_cond hst rfl (fun hc11 => ?_) (fun hc11 => ?_)
    · try simp only [n1, n2, n3, n4, n5, n6, n7, n8, n9, na, nb] at hc11
      refine wp_region_lit ?_
      refine l_op rfl (r_move hst rfl rfl ?_)
      clear hst; intro a hst
      refine l_op rfl (r_bin hst rfl rfl rfl rfl rfl ?_)
      clear hst; intro a hst
      rw [wrap_in _ (by omega) (by omega)] at hst
      refine l_op rfl (r_neg hst rfl rfl ?_)
      clear hst; intro a hst
      rw [wrap_in _ (by omega) (by omega)] at hst
      refine l_op rfl (r_assign hst rfl rfl ?_)
      clear hst; intro a hst
      refine wpList_nil ?_
      exact ⟨_, by omega, by omega, _, _, _, _, _, _, _, _, _, _, _, (hst.keep (ds := [1, 2, 6, 7]) (.cons rfl (.cons rfl (.cons rfl (.cons rfl (.nil)))))), hAD, hAR⟩
    try simp only [n1, n2, n3, n4, n5, n6, n7, n8, n9, na, nb] at hc11
    refine wp_skip ?_
    exact ⟨_, by omega, by omega, _, _, _, _, _, _, _, _, _, _, _, (hst.keep (ds := [1, 2, 6, 7]) (.cons rfl (.cons rfl (.cons rfl (.cons rfl (.nil)))))), hAD, hAR⟩
  obtain ⟨xsD, hcoD, hfD⟩ := hst.fact.1.to_flat
  obtain ⟨xsR, hcoR, hfR⟩ := hst.fact.2.to_flat
  have hxD : xsD.length = l * 5 := by have := hfD.1; rw [hl1.1] at this; exact this
  have hxR : xsR.length = j * 11 := by have := hfR.1; rw [hl3.1] at this; exact this
  have h1D := hfD.one_cells (fun _ _ _ _ => oneD)
  have h1R := hfR.one_cells (fun _ _ _ _ => oneR)
  have hst := hst.newFact (Mono.and (Mono.and (Cont.mono _ _) (Flat.mono kD _ _)) (Mono.and (Cont.mono _ _) (Flat.mono kR _ _))) ⟨⟨hcoD, hfD⟩, ⟨hcoR, hfR⟩⟩
  refine x_drawf (by kernel_rfl) hst (.cons _ (.cons_cons _ (List.nil_sublist _))) ?_
  clear hst; intro w hS hst
  refine f_take (i := 0) hS hst (.cons _ (.cons_cons _ (List.nil_sublist _))) rfl rfl rfl rfl (by kernel_rfl) (by kernel_rfl) (by kernel_rfl) (fun _ _ _ h => h) (fun _ _ _ _ hst => q_fieldAddr hst rfl Tf26_0) ?_
  clear hst; intro a hst
  refine f_take (i := 1) hS hst (.cons _ (.cons_cons _ (List.nil_sublist _))) rfl rfl rfl rfl (by kernel_rfl) (by kernel_rfl) (by kernel_rfl) (fun _ _ _ h => h) (fun _ _ _ _ hst => q_loads hst rfl Ts23 (.head _) rfl) ?_
  clear hst; intro a hst
  refine f_take (i := 3) hS hst (.cons _ (.cons_cons _ (List.nil_sublist _))) rfl rfl rfl rfl (by kernel_rfl) (by kernel_rfl) (by kernel_rfl) (fun _ _ _ h => h) (fun _ _ _ _ hst => q_fieldAddr hst rfl Tf26_1) ?_
  clear hst; intro a hst
  refine f_take (i := 4) hS hst (.cons _ (.cons_cons _ (List.nil_sublist _))) rfl rfl rfl rfl (by kernel_rfl) (by kernel_rfl) (by kernel_rfl) (fun _ _ _ h => h) (fun _ _ _ _ hst => q_loads hst rfl Ts24 (.head _) rfl) ?_
  clear hst; intro a hst
  refine f_two (i := 2) (j := 7) (by kernel_rfl) rfl rfl rfl rfl (r_appendO hst rfl Tet23 hst.fact.2.1.1 hxD h1D (by omega) (by omega) rfl ?_) (r_alloc hst Tz26 rfl ?_)
  · clear hst; intro a v w HD hAD hst
    simp only [List.cons_append, List.nil_append] at hst
    obtain ⟨AD, cD, rfl, hcD⟩ := hAD.len
    refine ⟨hst.kept (.cons _ (.cons_cons _ (List.nil_sublist _))), ?_⟩
    refine f_two (i := 5) (j := 7) (by kernel_rfl) rfl rfl rfl rfl (r_appendO hst rfl Tet24 hst.fact.2.2.1 hxR h1R (by omega) (by omega) rfl ?_) (r_alloc hst Tz26 rfl ?_)
    · clear hst; intro a v w HR hAR hst
      simp only [List.cons_append, List.nil_append] at hst
      obtain ⟨AR, cR, rfl, hcR⟩ := hAR.len
      refine ⟨hst.kept (.cons _ (.cons_cons _ (List.nil_sublist _))), ?_⟩
      refine f_take (i := 6) hS hst (.cons _ (.cons_cons _ (List.nil_sublist _))) rfl rfl rfl rfl (by kernel_rfl) (by kernel_rfl) (by kernel_rfl) (fun _ _ _ h => h) (fun _ _ _ _ hst => q_build (ps := [(0, (Operand.tmp 14)), (1, (Operand.tmp 17))]) hst Tso26 Tz26 (.cons Tf26_0 rfl rfl (.here (.nil (Nat.zero_le _))) (.cons Tf26_1 rfl rfl (.there (.here (.nil (Nat.zero_le _)))) (.nil)))) ?_
      clear hst; intro a hst
      refine f_one (i := 7) (by kernel_rfl) rfl rfl (r_alloc hst Tz26 rfl ?_)
      clear hst; intro a w g3 hst
      refine ⟨hst.kept (.cons _ (.cons _ (.cons_cons _ (List.nil_sublist _)))), ?_⟩
      refine f_one (i := 8) (by kernel_rfl) rfl rfl (r_store hst rfl rfl rfl Tsz26 rfl (.head (.here (.here (.nil (Nat.zero_le _))))) ?_)
      clear hst; intro w hst
      refine ⟨hst.kept (.cons _ (.cons _ (.cons_cons _ (List.nil_sublist _)))), ?_⟩
      refine f_done (by kernel_rfl) ?_
      have hst := hS.back hst
      have hst := ((hst.keep (ds := [1, 2, 6, 7]) (.cons rfl (.cons rfl (.cons rfl (.cons rfl (.nil)))))).drop (.cons_cons _ (.cons_cons _ (.cons _ (List.Sublist.refl _))))).newFact (Mono.and (Flat.mono kD _ _) (Flat.mono kR _ _)) ⟨hst.fact.1.2, hst.fact.2.2⟩
      exact ⟨_, _, _, _, _, _, _, _, _, _, _, hst, hAD, hAR⟩
    clear hst; intro a w g3 hst
    refine ⟨hst.kept (.cons _ (.cons _ (.cons_cons _ (List.nil_sublist _)))), ?_⟩
    refine f_one (i := 5) (by kernel_rfl) rfl rfl (r_appendO hst rfl Tet24 hst.fact.2.2.1 hxR h1R (by omega) (by omega) rfl ?_)
    clear hst; intro a v w HR hAR hst
    simp only [List.cons_append, List.nil_append] at hst
    obtain ⟨AR, cR, rfl, hcR⟩ := hAR.len
    refine ⟨hst.kept (.cons _ (.cons _ (.cons_cons _ (List.nil_sublist _)))), ?_⟩
    refine f_take (i := 6) hS hst (.cons _ (.cons _ (.cons_cons _ (List.nil_sublist _)))) rfl rfl rfl rfl (by kernel_rfl) (by kernel_rfl) (by kernel_rfl) (fun _ _ _ h => h) (fun _ _ _ _ hst => q_build (ps := [(0, (Operand.tmp 14)), (1, (Operand.tmp 17))]) hst Tso26 Tz26 (.cons Tf26_0 rfl rfl (.here (.nil (Nat.zero_le _))) (.cons Tf26_1 rfl rfl (.there (.here (.nil (Nat.zero_le _)))) (.nil)))) ?_
    clear hst; intro a hst
    refine f_one (i := 8) (by kernel_rfl) rfl rfl (r_store hst rfl rfl rfl Tsz26 rfl (.head (.here (.here (.nil (Nat.zero_le _))))) ?_)
    clear hst; intro w hst
    refine ⟨hst.kept (.cons _ (.cons _ (.cons_cons _ (List.nil_sublist _)))), ?_⟩
    refine f_done (by kernel_rfl) ?_
    have hst := hS.back hst
    have hst := ((hst.keep (ds := [1, 2, 6, 7]) (.cons rfl (.cons rfl (.cons rfl (.cons rfl (.nil)))))).drop (.cons_cons _ (.cons_cons _ (.cons _ (List.Sublist.refl _))))).newFact (Mono.and (Flat.mono kD _ _) (Flat.mono kR _ _)) ⟨hst.fact.1.2, hst.fact.2.2⟩
    exact ⟨_, _, _, _, _, _, _, _, _, _, _, hst, hAD, hAR⟩
  clear hst; intro a w g3 hst
  refine ⟨hst.kept (.cons _ (.cons _ (.cons_cons _ (List.nil_sublist _)))), ?_⟩
  refine f_one (i := 2) (by kernel_rfl) rfl rfl (r_appendO hst rfl Tet23 hst.fact.2.1.1 hxD h1D (by omega) (by omega) rfl ?_)
  clear hst; intro a v w HD hAD hst
  simp only [List.cons_append, List.nil_append] at hst
  obtain ⟨AD, cD, rfl, hcD⟩ := hAD.len
  refine ⟨hst.kept (.cons _ (.cons _ (.cons_cons _ (List.nil_sublist _)))), ?_⟩
  refine f_one (i := 5) (by kernel_rfl) rfl rfl (r_appendO hst rfl Tet24 hst.fact.2.2.1 hxR h1R (by omega) (by omega) rfl ?_)
  clear hst; intro a v w HR hAR hst
  simp only [List.cons_append, List.nil_append] at hst
  obtain ⟨AR, cR, rfl, hcR⟩ := hAR.len
  refine ⟨hst.kept (.cons _ (.cons _ (.cons_cons _ (List.nil_sublist _)))), ?_⟩
  refine f_take (i := 6) hS hst (.cons _ (.cons _ (.cons_cons _ (List.nil_sublist _)))) rfl rfl rfl rfl (by kernel_rfl) (by kernel_rfl) (by kernel_rfl) (fun _ _ _ h => h) (fun _ _ _ _ hst => q_build (ps := [(0, (Operand.tmp 14)), (1, (Operand.tmp 17))]) hst Tso26 Tz26 (.cons Tf26_0 rfl rfl (.here (.nil (Nat.zero_le _))) (.cons Tf26_1 rfl rfl (.there (.here (.nil (Nat.zero_le _)))) (.nil)))) ?_
  clear hst; intro a hst
  refine f_one (i := 8) (by kernel_rfl) rfl rfl (r_store hst rfl rfl rfl Tsz26 rfl (.head (.here (.here (.nil (Nat.zero_le _))))) ?_)
  clear hst; intro w hst
  refine ⟨hst.kept (.cons _ (.cons _ (.cons_cons _ (List.nil_sublist _)))), ?_⟩
  refine f_done (by kernel_rfl) ?_
  have hst := hS.back hst
  have hst := ((hst.keep (ds := [1, 2, 6, 7]) (.cons rfl (.cons rfl (.cons rfl (.cons rfl (.nil)))))).drop (.cons_cons _ (.cons_cons _ (.cons _ (List.Sublist.refl _))))).newFact (Mono.and (Flat.mono kD _ _) (Flat.mono kR _ _)) ⟨hst.fact.1.2, hst.fact.2.2⟩
  exact ⟨_, _, _, _, _, _, _, _, _, _, _, hst, hAD, hAR⟩
end Go.Proofs.YtjnjkbmegfkiiaaGreat
