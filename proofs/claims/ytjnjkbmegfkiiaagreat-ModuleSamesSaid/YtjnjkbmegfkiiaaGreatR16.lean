/- The program's own reader on the text that the law wakes with: what it says. -/
import Derived.Test.YtjnjkbmegfkiiaaGreatR15
namespace Go.Proofs.YtjnjkbmegfkiiaaGreat
open Go.RowKit
set_option maxRecDepth 10000
set_option linter.unusedVariables false
set_option linter.unusedSimpArgs false
attribute [local irreducible] Oper.wp Code.wp wpList wpAny wpOp Calls CallsS
theorem tk1 : tok9[(1 : Int).toNat]? = some (5, [100, 97, 116, 97]) := rfl
theorem tk2 : tok9[(2 : Int).toNat]? = some (3, [78]) := rfl
theorem tk3 : tok9[(3 : Int).toNat]? = some (6, [61]) := rfl
theorem tk4 : tok9[(4 : Int).toNat]? = some (3, [90]) := rfl
theorem tk6 : tok9[(6 : Int).toNat]? = some (3, [83]) := rfl
theorem nm5 : Names (4 + 1) 5 := ⟨by decide, fun r _ _ => by omega, (6, [124]), rfl, by decide, by decide, .inr (by decide)⟩
theorem nm8 : Names (6 + 1) 8 := ⟨by decide, fun r _ _ => ⟨(3, [78]), by rw [show r = 7 by omega]; rfl, rfl⟩, (0, []), rfl, by decide, by decide, .inl (by decide)⟩
def InvDa (w0 : World) (U0 : Mk) (HX : List Blk) (RW : List Row) (F : Fact) (g g2 g3 : Nat) (A : Option Addr) (c : Nat) (s : ByteArray) (x y : Int) (mz : Nat) (a : Act) (w : World) : Prop :=
  ∃ (U : Mk) (r : Int) (l : Nat) (t : Int × List UInt8) (C : Option Addr) (cc : Nat) (xs : List Value), Sta w0 U0 54 [(0, .pointer (some ⟨g, 0, none⟩)), (2, .pointer (some ⟨g2, 0, none⟩)), (3, .pointer (some ⟨g3, 0, none⟩)), (4, .func (.func 52) [.pointer (some ⟨g, 0, none⟩)].toArray #[])] (⟨g3, 42, [.string s, .slice none 0 0, .slice C l cc, .int .i64 x, .int .i64 y]⟩ :: ⟨g2, 42, [.string ⟨#[]⟩, .slice none 0 0, .slice none 0 0, .int .i64 0, .int .i64 0]⟩ :: ⟨g, 84, [.slice A 9 c, .int .i64 r, .int .i64 0, .int .i64 0, .int .i64 0, .int .i64 0]⟩ :: HX) (⟨.slice C l cc, 65, 4, l⟩ :: RW) (fun w U => Cont (.slice C l cc) xs w U ∧ F w U) a w U ∧ tok9[r.toNat]? = some t ∧ xs.length = l * 4 ∧ (r = 5 ∧ l = 1 ∧ t = (6, [124]) ∧ mz = 1 ∨ r = 8 ∧ l = 2 ∧ t = (0, []) ∧ mz = 0)

theorem data_m {g : Nat} {F : Fact} {A : Option Addr} {c : Nat} (hF : ∀ w U, F w U → Sl kTk (.slice A 9 c) tok9 w U) :
    MethC Tryz.prog 35 [.pointer (some ⟨g, 0, none⟩)] ⟨g, 84, [.slice A 9 c, .int .i64 1, .int .i64 0, .int .i64 0, .int .i64 0, .int .i64 0]⟩ F (fun v b' => (∃ (s : ByteArray) (x y : Int) (C : Option Addr) (cc : Nat), v = .agg #[.string s, .slice none 0 0, .slice C 2 cc, .int .i64 x, .int .i64 y]) ∧ b' = ⟨g, 84, [.slice A 9 c, .int .i64 8, .int .i64 0, .int .i64 0, .int .i64 0, .int .i64 0]⟩) := by
  refine m_enter (n := 54) Tryz.func35 rfl rfl (by simp) (.cons (d := 0) rfl (.nil)) ?_
  intro w0 U0 HX RW w U a hst
  have hmF := hst.mono
  refine wp_seq ?_
  refine wp_region_lit ?_
  refine l_op rfl (r_alloc hst Tz42 rfl ?_)
  clear hst; intro a w g1 hst
  refine wpList_nil ?_
  refine then_n ?_
  refine wp_seq ?_
  refine wp_region_lit ?_
  refine l_op rfl (r_move hst rfl rfl ?_)
  clear hst; intro a hst
  refine l_op rfl (r_callm0 (H1 := [_]) (xs := [(Operand.tmp 5)]) hst rfl rfl Ten32 (now_m (fun _ _ h => by first | exact hF _ _ h | exact hF _ _ h.2 | exact hF _ _ h.2.2 | exact hF _ _ h.2.2.2) (by decide) tk1) rfl ?_)
  clear hst; rintro a _ _ w U ⟨⟨m1, x1, y1, s1, rfl, hs1⟩, rfl⟩ hst
  simp only [List.cons_append, List.nil_append] at hst
  refine l_op rfl (r_fielda hst rfl Tfa50_3 (.cons rfl (.cons rfl (.nil))) rfl rfl ?_)
  clear hst; intro a hst
  refine l_op rfl (r_build (ps := [(3, (Operand.tmp 7))]) hst Tso42 Tz42 (.cons Tf42_3 rfl rfl (.there (.there (.there (.here (.here (.nil (Nat.zero_le _))))))) (.nil)) rfl ?_)
  clear hst; intro a hst
  refine l_op rfl (r_alloc hst Tz42 rfl ?_)
  clear hst; intro a w g2 hst
  refine l_op rfl (r_store hst rfl rfl rfl Tsz42 rfl (.head (.here (.here (.here (.here (.here (.nil (Nat.zero_le _)))))))) ?_)
  clear hst; intro w hst
  refine wpList_nil ?_
  refine then_n ?_
  refine wp_seq ?_
  refine wp_region_lit ?_
  refine l_op rfl (r_move hst rfl rfl ?_)
  clear hst; intro a hst
  refine l_op rfl (r_callm0 (H1 := [_, _]) (xs := [(Operand.tmp 9), (Operand.const (Value.int IntKind.i64 5)), (Operand.const (Value.string { data := #[100, 97, 116, 97] }))]) hst rfl rfl Ten33 (take_m _ _ (fun _ _ h => by first | exact hF _ _ h | exact hF _ _ h.2 | exact hF _ _ h.2.2 | exact hF _ _ h.2.2.2) (by decide) tk1 rfl (ByteArray.toList_mk _).symm) rfl ?_)
  clear hst; rintro a _ _ w U ⟨rfl, rfl⟩ hst
  simp only [List.cons_append, List.nil_append] at hst
  refine wpList_nil ?_
  refine then_n ?_
  refine wp_seq ?_
  refine wp_region_lit ?_
  refine l_op rfl (r_move hst rfl rfl ?_)
  clear hst; intro a hst
  refine l_op rfl (r_callm0 (H1 := [_, _]) (xs := [(Operand.tmp 11), (Operand.const (Value.int IntKind.i64 3))]) hst rfl rfl Ten51 (name_m (k := 3) (fun _ _ h => by first | exact hF _ _ h | exact hF _ _ h.2 | exact hF _ _ h.2.2 | exact hF _ _ h.2.2.2) (by decide) tk2 rfl) rfl ?_)
  clear hst; rintro a _ _ w U ⟨⟨s2, rfl, hs2⟩, rfl⟩ hst
  simp only [List.cons_append, List.nil_append] at hst
  refine l_op rfl (r_fieldAddr hst rfl Tf42_0 rfl ?_)
  clear hst; intro a hst
  refine l_op rfl (r_store hst rfl rfl rfl Tsz9 rfl (.head (.here (.nil (Nat.zero_le _)))) ?_)
  clear hst; intro w hst
  refine wpList_nil ?_
  refine then_n ?_
  refine wp_seq ?_
  refine wp_block ?_
  have hst := ((hst.keep (ds := [0, 2, 3]) (.cons rfl (.cons rfl (.cons rfl (.nil))))).drop (.cons_cons _ (.cons_cons _ (.cons_cons _ ((List.Sublist.refl _))))))
  refine wp_loop_ghost (fun _ a w => ∃ U, Sta w0 U0 54 _ _ RW F a w U) 0 ⟨_, hst⟩ ?_
  clear hst
  rintro mz a w ⟨U, hst⟩
  refine wp_seq ?_
  refine wp_seq ?_
  refine wp_region_lit ?_
  refine l_op rfl (r_move hst rfl rfl ?_)
  clear hst; intro a hst
  refine l_op rfl (r_callm0 (H1 := [_, _]) (xs := [(Operand.tmp 14)]) hst rfl rfl Ten31 (ok_m) rfl ?_)
  clear hst; rintro a _ _ w U ⟨rfl, rfl⟩ hst
  simp only [List.cons_append, List.nil_append] at hst
  refine l_op rfl (r_move hst rfl rfl ?_)
  clear hst; intro a hst
  refine l_on hst rfl rfl rfl (r_move hst rfl rfl ?_)
  clear hst; intro a hst
  refine l_on hst rfl rfl rfl (r_callm0 (H1 := [_, _]) (xs := [(Operand.tmp 17)]) hst rfl rfl Ten32 (now_m (fun _ _ h => by first | exact hF _ _ h | exact hF _ _ h.2 | exact hF _ _ h.2.2 | exact hF _ _ h.2.2.2) (by decide) tk3) rfl ?_)
  clear hst; rintro a _ _ w U ⟨⟨m3, x3, y3, s3, rfl, hs3⟩, rfl⟩ hst
  simp only [List.cons_append, List.nil_append] at hst
  refine l_on hst rfl rfl rfl (r_fields hst rfl Tfs50_0 rfl rfl ?_)
  clear hst; intro a hst
  refine l_on hst rfl rfl rfl (r_bin hst rfl rfl rfl rfl rfl ?_)
  clear hst; intro a hst
  refine l_op rfl (r_pick hst rfl rfl rfl ?_)
  clear hst; intro a hst
  refine wpList_nil ?_
  refine then_n ?_
  refine x_cond hst rfl (fun hc1 => ?_) (fun hc1 => ?_)
  · exact absurd hc1 (by decide)
  try simp only [n1, n2, n3, n4, n5, n6, n7, n8, n9, na, nb] at hc1
  refine wp_exit ?_
  refine then_x ?_
  refine then_x ?_
  refine inb_hit ?_
  refine then_n ?_
  refine wp_seq ?_
  refine wp_region_lit ?_
  refine l_op rfl (r_move hst rfl rfl ?_)
  clear hst; intro a hst
  refine l_op rfl (r_callm0 (H1 := [_, _]) (xs := [(Operand.tmp 29), (Operand.const (Value.int IntKind.i64 6)), (Operand.const (Value.string { data := #[61] }))]) hst rfl rfl Ten33 (take_m _ _ (fun _ _ h => by first | exact hF _ _ h | exact hF _ _ h.2 | exact hF _ _ h.2.2 | exact hF _ _ h.2.2.2) (by decide) tk3 rfl (ByteArray.toList_mk _).symm) rfl ?_)
  clear hst; rintro a _ _ w U ⟨rfl, rfl⟩ hst
  simp only [List.cons_append, List.nil_append] at hst
  refine wpList_nil ?_
  refine then_n ?_
  refine wp_seq ?_
  refine wp_region_lit ?_
  refine l_op rfl (r_move hst rfl rfl ?_)
  clear hst; intro a hst
  refine l_op rfl (r_makeFunc hst rfl rfl ?_)
  clear hst; intro a hst
  refine l_op rfl (r_assign hst rfl rfl ?_)
  clear hst; intro a hst
  refine wpList_nil ?_
  refine then_n ?_
  refine wp_seq ?_
  refine wp_region_lit ?_
  refine l_op rfl (r_move hst rfl rfl ?_)
  clear hst; intro a hst
  refine l_op rfl (r_callm (H1 := [_, _]) (xs := []) hst rfl rfl rfl Ten52 (con_m (q := 5) (fun _ _ h => by first | exact hF _ _ h | exact hF _ _ h.2 | exact hF _ _ h.2.2 | exact hF _ _ h.2.2.2) (by decide) tk4 rfl nm5) rfl ?_)
  clear hst; rintro a _ _ w U ⟨⟨s5, B5, l5, c5, x5, y5, rfl⟩, rfl⟩ hst
  simp only [List.cons_append, List.nil_append] at hst
  refine l_op rfl (r_slice1 hst Tu40 Tsz65 Tz65 rfl (by decide) (by decide) rfl rfl rfl rfl ?_)
  clear hst; intro a w g3 hst
  refine l_op rfl (r_fieldAddr hst rfl Tf42_2 rfl ?_)
  clear hst; intro a hst
  refine l_op rfl (r_store hst rfl rfl rfl Tsz40 rfl (.tail (.head (.there (.there (.here (.nil (Nat.zero_le _))))))) ?_)
  clear hst; intro w hst
  refine wpList_nil ?_
  refine then_n ?_
  refine wp_seq ?_
  refine wp_block ?_
  obtain ⟨U, hext1, hcont1, hst⟩ := hst.enrow_ (m := 1) (sz := 4) (.head) rfl (by decide) (by decide) (by decide)
  have hst := ((hst.keep (ds := [0, 2, 3, 4]) (.cons rfl (.cons rfl (.cons rfl (.cons rfl (.nil)))))).drop (.cons_cons _ (.cons_cons _ (.cons_cons _ ((List.Sublist.refl _))))))
  have hst := hst.newFact (Mono.and (Cont.mono _ _) hmF) ⟨hcont1, hst.fact⟩
  refine wp_loop_ghost (InvDa w0 U0 HX RW F g g1 g2 A c _ _ _) 1 ⟨_, 5, 1, _, _, _, _, hst, rfl, rfl, .inl ⟨rfl, rfl, rfl, rfl⟩⟩ ?_
  clear hst
  rintro mz a w ⟨U, r, l, t, C, cc, xs, hst, ht, hxl, hcs⟩
  refine wp_seq ?_
  refine wp_seq ?_
  refine wp_region_lit ?_
  refine l_op rfl (r_move hst rfl rfl ?_)
  clear hst; intro a hst
  refine l_op rfl (r_callm0 (H1 := [_, _]) (xs := [(Operand.tmp 37), (Operand.const (Value.int IntKind.i64 6)), (Operand.const (Value.string { data := #[124] }))]) hst rfl rfl Ten34 (is_m _ _ (fun _ _ h => by first | exact hF _ _ h | exact hF _ _ h.2 | exact hF _ _ h.2.2 | exact hF _ _ h.2.2.2) (by omega) ht) rfl ?_)
  clear hst; rintro a _ _ w U ⟨⟨bi, rfl, hbi⟩, rfl⟩ hst
  rw [ByteArray.toList_mk [124]] at hbi
  simp only [List.cons_append, List.nil_append] at hst
  refine wpList_nil ?_
  refine then_n ?_
  refine x_cond hst rfl (fun hc2 => ?_) (fun hc2 => ?_)
  · try simp only [n1, n2, n3, n4, n5, n6, n7, n8, n9, na, nb] at hc2
    obtain ⟨rfl, rfl, rfl, rfl⟩ : r = 5 ∧ l = 1 ∧ t = (6, [124]) ∧ mz = 1 := by
      rcases hcs with h | ⟨_, _, rfl, _⟩
      · exact h
      · exact absurd (hbi.1 (by assumption)).1 (by decide)
    refine wp_skip ?_
    refine then_n ?_
    refine wp_block ?_
    refine wp_seq ?_
    refine wp_region_lit ?_
    refine l_op rfl (r_move hst rfl rfl ?_)
    clear hst; intro a hst
    refine l_op rfl (r_nilCheck hst rfl rfl ?_)
    clear hst; intro a hst
    refine l_op rfl (r_fieldAddr hst rfl Tf84_1 rfl ?_)
    clear hst; intro a hst
    refine l_op rfl (r_loads hst rfl Ts3 (.tail _ (.tail _ (.head _))) rfl rfl ?_)
    clear hst; intro a hst
    refine l_op rfl (r_bin hst rfl rfl rfl rfl rfl ?_)
    clear hst; intro a hst
    rw [wrap_in _ (by omega) (by omega)] at hst
    refine l_op rfl (r_nilCheck hst rfl rfl ?_)
    clear hst; intro a hst
    refine l_op rfl (r_fieldAddr hst rfl Tf84_1 rfl ?_)
    clear hst; intro a hst
    refine l_op rfl (r_store hst rfl rfl rfl Tsz3 rfl (.tail (.tail (.head (.there (.here (.nil (Nat.zero_le _))))))) ?_)
    clear hst; intro w hst
    refine wpList_nil ?_
    refine then_n ?_
    refine x_drawf (by kernel_rfl) hst (.cons _ (.cons _ (.cons _ (List.nil_sublist _)))) ?_
    clear hst; intro w hS hst
    refine f_take (i := 0) hS hst (.cons _ (.cons _ (.cons _ (List.nil_sublist _)))) rfl rfl rfl rfl (by kernel_rfl) (by kernel_rfl) (by kernel_rfl) (fun _ _ _ h => h) (fun _ _ _ _ hst => q_fieldAddr hst rfl Tf42_2) ?_
    clear hst; intro a hst
    refine f_take (i := 2) hS hst (.cons _ (.cons _ (.cons _ (List.nil_sublist _)))) rfl rfl rfl rfl (by kernel_rfl) (by kernel_rfl) (by kernel_rfl) (fun _ _ _ h => h) (fun _ _ _ _ hst => q_move hst rfl) ?_
    clear hst; intro a hst
    refine f_two (i := 1) (j := 3) (by kernel_rfl) rfl rfl rfl rfl (r_loads hst rfl Ts40 (.head _) rfl rfl ?_) (r_callm (H1 := [_, _]) (xs := []) hst rfl rfl rfl Ten52 (con_m (q := 8) (fun _ _ h => by first | exact hF _ _ h | exact hF _ _ h.2 | exact hF _ _ h.2.2 | exact hF _ _ h.2.2.2) (by decide) tk6 rfl nm8) rfl ?_)
    · clear hst; intro a hst
      refine ⟨hst.kept (.cons _ (.cons _ (.cons _ (List.nil_sublist _)))), ?_⟩
      refine f_one (i := 3) (by kernel_rfl) rfl rfl (r_callm (H1 := [_, _]) (xs := []) hst rfl rfl rfl Ten52 (con_m (q := 8) (fun _ _ h => by first | exact hF _ _ h | exact hF _ _ h.2 | exact hF _ _ h.2.2 | exact hF _ _ h.2.2.2) (by decide) tk6 rfl nm8) rfl ?_)
      clear hst; rintro a _ _ w U ⟨⟨s8, B8, l8, c8, x8, y8, rfl⟩, rfl⟩ hst
      simp only [List.cons_append, List.nil_append] at hst
      refine ⟨hst.kept (.cons _ (.cons _ (.cons _ (List.nil_sublist _)))), ?_⟩
      refine f_one (i := 4) (by kernel_rfl) rfl rfl (r_slice1 hst Tu40 Tsz65 Tz65 rfl (by decide) (by decide) rfl rfl rfl rfl ?_)
      clear hst; intro a w g4 hst
      refine ⟨hst.kept (.cons _ (.cons _ (.cons _ (.cons _ (List.nil_sublist _))))), ?_⟩
      refine f_one (i := 5) (by kernel_rfl) rfl rfl (r_append hst rfl rfl Tet40 (.head _) rfl (by decide) rfl hst.fact.2.1 hxl (by omega) (by omega) rfl ?_)
      clear hst; intro a v w U hext hcont hv hst
      obtain ⟨B9, c9, rfl, hcc9⟩ := hv
      have hst := hst.newFact (Mono.and (Ext.monoF _ _) (Mono.and (Cont.mono _ _) hmF)) ⟨hst.fact.1, hcont, hst.fact.2.2⟩
      refine ⟨hst.kept (.cons _ (.cons _ (.cons _ (.cons _ (List.nil_sublist _))))), ?_⟩
      refine f_take (i := 6) hS hst (.cons _ (.cons _ (.cons _ (.cons _ (List.nil_sublist _))))) rfl rfl rfl rfl (by kernel_rfl) (by kernel_rfl) (by kernel_rfl) (fun _ _ _ h => h) (fun _ _ _ _ hst => q_fieldAddr hst rfl Tf42_2) ?_
      clear hst; intro a hst
      refine f_one (i := 7) (by kernel_rfl) rfl rfl (r_store hst rfl rfl rfl Tsz40 rfl (.tail (.head (.there (.there (.here (.nil (Nat.zero_le _))))))) ?_)
      clear hst; intro w hst
      refine ⟨hst.kept (.cons _ (.cons _ (.cons _ (.cons _ (List.nil_sublist _))))), ?_⟩
      refine f_done (by kernel_rfl) ?_
      have hst := hst.setFact (Mono.and (Cont.mono _ _) hmF) (fun h => h.2)
      refine inb_n ?_
      have hst := ((hst.keep (ds := [0, 2, 3, 4]) (.cons rfl (.cons rfl (.cons rfl (.cons rfl (.nil)))))).drop (.cons _ (.cons_cons _ (.cons_cons _ (.cons_cons _ ((List.Sublist.refl _)))))))
      exact then_k ⟨0, by decide, _, 8, 2, _, _, _, _, hst, rfl, by rw [List.length_append, hxl]; rfl, .inr ⟨rfl, rfl, rfl, rfl⟩⟩
    clear hst; rintro a _ _ w U ⟨⟨s8, B8, l8, c8, x8, y8, rfl⟩, rfl⟩ hst
    simp only [List.cons_append, List.nil_append] at hst
    refine ⟨hst.kept (.cons _ (.cons _ (.cons _ (List.nil_sublist _)))), ?_⟩
    refine f_two (i := 1) (j := 4) (by kernel_rfl) rfl rfl rfl rfl (r_loads hst rfl Ts40 (.head _) rfl rfl ?_) (r_slice1 hst Tu40 Tsz65 Tz65 rfl (by decide) (by decide) rfl rfl rfl rfl ?_)
    · clear hst; intro a hst
      refine ⟨hst.kept (.cons _ (.cons _ (.cons _ (List.nil_sublist _)))), ?_⟩
      refine f_one (i := 4) (by kernel_rfl) rfl rfl (r_slice1 hst Tu40 Tsz65 Tz65 rfl (by decide) (by decide) rfl rfl rfl rfl ?_)
      clear hst; intro a w g4 hst
      refine ⟨hst.kept (.cons _ (.cons _ (.cons _ (.cons _ (List.nil_sublist _))))), ?_⟩
      refine f_one (i := 5) (by kernel_rfl) rfl rfl (r_append hst rfl rfl Tet40 (.head _) rfl (by decide) rfl hst.fact.2.1 hxl (by omega) (by omega) rfl ?_)
      clear hst; intro a v w U hext hcont hv hst
      obtain ⟨B9, c9, rfl, hcc9⟩ := hv
      have hst := hst.newFact (Mono.and (Ext.monoF _ _) (Mono.and (Cont.mono _ _) hmF)) ⟨hst.fact.1, hcont, hst.fact.2.2⟩
      refine ⟨hst.kept (.cons _ (.cons _ (.cons _ (.cons _ (List.nil_sublist _))))), ?_⟩
      refine f_take (i := 6) hS hst (.cons _ (.cons _ (.cons _ (.cons _ (List.nil_sublist _))))) rfl rfl rfl rfl (by kernel_rfl) (by kernel_rfl) (by kernel_rfl) (fun _ _ _ h => h) (fun _ _ _ _ hst => q_fieldAddr hst rfl Tf42_2) ?_
      clear hst; intro a hst
      refine f_one (i := 7) (by kernel_rfl) rfl rfl (r_store hst rfl rfl rfl Tsz40 rfl (.tail (.head (.there (.there (.here (.nil (Nat.zero_le _))))))) ?_)
      clear hst; intro w hst
      refine ⟨hst.kept (.cons _ (.cons _ (.cons _ (.cons _ (List.nil_sublist _))))), ?_⟩
      refine f_done (by kernel_rfl) ?_
      have hst := hst.setFact (Mono.and (Cont.mono _ _) hmF) (fun h => h.2)
      refine inb_n ?_
      have hst := ((hst.keep (ds := [0, 2, 3, 4]) (.cons rfl (.cons rfl (.cons rfl (.cons rfl (.nil)))))).drop (.cons _ (.cons_cons _ (.cons_cons _ (.cons_cons _ ((List.Sublist.refl _)))))))
      exact then_k ⟨0, by decide, _, 8, 2, _, _, _, _, hst, rfl, by rw [List.length_append, hxl]; rfl, .inr ⟨rfl, rfl, rfl, rfl⟩⟩
    clear hst; intro a w g4 hst
    refine ⟨hst.kept (.cons _ (.cons _ (.cons _ (.cons _ (List.nil_sublist _))))), ?_⟩
    refine f_one (i := 1) (by kernel_rfl) rfl rfl (r_loads hst rfl Ts40 (.tail _ (.head _)) rfl rfl ?_)
    clear hst; intro a hst
    refine ⟨hst.kept (.cons _ (.cons _ (.cons _ (.cons _ (List.nil_sublist _))))), ?_⟩
    refine f_one (i := 5) (by kernel_rfl) rfl rfl (r_append hst rfl rfl Tet40 (.head _) rfl (by decide) rfl hst.fact.2.1 hxl (by omega) (by omega) rfl ?_)
    clear hst; intro a v w U hext hcont hv hst
    obtain ⟨B9, c9, rfl, hcc9⟩ := hv
    have hst := hst.newFact (Mono.and (Ext.monoF _ _) (Mono.and (Cont.mono _ _) hmF)) ⟨hst.fact.1, hcont, hst.fact.2.2⟩
    refine ⟨hst.kept (.cons _ (.cons _ (.cons _ (.cons _ (List.nil_sublist _))))), ?_⟩
    refine f_take (i := 6) hS hst (.cons _ (.cons _ (.cons _ (.cons _ (List.nil_sublist _))))) rfl rfl rfl rfl (by kernel_rfl) (by kernel_rfl) (by kernel_rfl) (fun _ _ _ h => h) (fun _ _ _ _ hst => q_fieldAddr hst rfl Tf42_2) ?_
    clear hst; intro a hst
    refine f_one (i := 7) (by kernel_rfl) rfl rfl (r_store hst rfl rfl rfl Tsz40 rfl (.tail (.head (.there (.there (.here (.nil (Nat.zero_le _))))))) ?_)
    clear hst; intro w hst
    refine ⟨hst.kept (.cons _ (.cons _ (.cons _ (.cons _ (List.nil_sublist _))))), ?_⟩
    refine f_done (by kernel_rfl) ?_
    have hst := hst.setFact (Mono.and (Cont.mono _ _) hmF) (fun h => h.2)
    refine inb_n ?_
    have hst := ((hst.keep (ds := [0, 2, 3, 4]) (.cons rfl (.cons rfl (.cons rfl (.cons rfl (.nil)))))).drop (.cons _ (.cons_cons _ (.cons_cons _ (.cons_cons _ ((List.Sublist.refl _)))))))
    exact then_k ⟨0, by decide, _, 8, 2, _, _, _, _, hst, rfl, by rw [List.length_append, hxl]; rfl, .inr ⟨rfl, rfl, rfl, rfl⟩⟩
  try simp only [n1, n2, n3, n4, n5, n6, n7, n8, n9, na, nb] at hc2
  obtain ⟨rfl, rfl, rfl, rfl⟩ : r = 8 ∧ l = 2 ∧ t = (0, []) ∧ mz = 0 := by
    rcases hcs with ⟨_, _, rfl, _⟩ | h
    · exact absurd (hbi.2 ⟨rfl, rfl⟩) (by simp_all)
    · exact h
  refine wp_exit ?_
  refine then_x ?_
  refine then_x ?_
  refine inb_hit ?_
  refine then_n ?_
  refine wp_seq ?_
  refine wp_region_lit ?_
  refine l_op rfl (r_loada hst rfl Ta42 (.head _) (.cons rfl (.cons rfl (.cons rfl (.cons rfl (.cons rfl (.nil)))))) rfl rfl ?_)
  clear hst; intro a hst
  refine l_op rfl (r_store hst rfl rfl rfl Tsz42 rfl (.tail (.head (.here (.here (.here (.here (.here (.nil (Nat.zero_le _))))))))) ?_)
  clear hst; intro w hst
  refine wpList_nil ?_
  refine then_n ?_
  refine wp_ret ?_
  have hst := (hst.row_drop (RW' := RW) (.cons _ (List.Sublist.refl _)))
  have hst := hst.setFact hmF (fun h => by first | exact h | exact h.2 | exact h.2.2 | exact h.2.2.2)
  refine m_ret (rs := [.cell 2 42]) hst rfl (.agg rfl Ta42 (.tail _ (.head _)) rfl (.nil)) ⟨_, (.cons _ (.cons _ (.cons_cons _ (List.Sublist.refl _)))), rfl, ?_⟩
  exact ⟨⟨_, _, _, _, _, rfl⟩, rfl⟩

/-- A declaration of two constructors. -/
def kA : EK Unit := ⟨5, by omega, fun cs _ _ _ => ∃ (s : ByteArray) (x y : Int) (C : Option Addr) (cc : Nat), cs = [.string s, .slice none 0 0, .slice C 2 cc, .int .i64 x, .int .i64 y], fun _ _ _ _ _ _ _ h => h, fun h => by obtain ⟨s, x, y, C, cc, rfl⟩ := h; rfl⟩
def InvPa (w0 : World) (U0 : Mk) (g1 g2 g4 g5 : Nat) (A : Option Addr) (c : Nat) (mz : Nat) (a : Act) (w : World) : Prop :=
  ∃ (U : Mk) (r : Int) (l : Nat) (t : Int × List UInt8) (C : Option Addr) (cc : Nat) (xs : List Value) (us : List Unit), Sta w0 U0 57 [(2, .pointer (some ⟨g1, 0, none⟩)), (3, .pointer (some ⟨g2, 0, none⟩)), (6, .pointer (some ⟨g4, 0, none⟩)), (7, .pointer (some ⟨g5, 0, none⟩))] [⟨g5, 26, [.slice C l cc, .slice none 0 0]⟩, ⟨g4, 84, [.slice A 9 c, .int .i64 r, .int .i64 0, .int .i64 0, .int .i64 0, .int .i64 0]⟩, ⟨g2, 36, [.int .i64 0, .int .i64 0, .int .i64 0]⟩, ⟨g1, 26, [.slice none 0 0, .slice none 0 0]⟩] [⟨.slice C l cc, 42, 5, l⟩] (fun w U => (Cont (.slice C l cc) xs w U ∧ Flat kA xs us w U) ∧ Sl kTk (.slice A 9 c) tok9 w U) a w U ∧ tok9[r.toNat]? = some t ∧ xs.length = l * 5 ∧ us.length = l ∧ l ≤ cc ∧ (r = 0 ∧ l = 0 ∧ t = (1, []) ∧ mz = 1 ∨ r = 8 ∧ l = 1 ∧ t = (0, []) ∧ mz = 0)

def one : List Unit := [()]
theorem one_of {v : Value} {us : List Unit} {w : World} {U : Mk} (h : Sl kA v us w U) (hl : us.length = 1) : Sl kA v one w U := by
  match us, hl with
  | [()], _ => exact h

theorem parse_c {w0 : World} {U0 : Mk} :
    CallsS Tryz.prog 9 [.string wk] w0 U0 (fun v w' U' => ∃ (C : Option Addr) (cc : Nat), v = .tuple #[.agg #[.slice C 1 cc, .slice none 0 0], .agg #[.int .i64 0, .int .i64 0, .int .i64 0]] ∧ Sl kA (.slice C 1 cc) one w' U') := by
  refine x_enter (F := fun _ _ => True) (n := 57) Tryz.func9 rfl rfl (by simp) (.cons (d := 0) rfl (.nil)) (Mono.true_) (trivial) ?_
  intro a hst
  refine wp_seq ?_
  refine wp_region_lit ?_
  refine l_op rfl (r_alloc hst Tz26 rfl ?_)
  clear hst; intro a w g1 hst
  refine l_op rfl (r_alloc hst Tz36 rfl ?_)
  clear hst; intro a w g2 hst
  refine wpList_nil ?_
  refine then_n ?_
  refine wp_seq ?_
  refine wp_region_lit ?_
  refine l_op rfl (r_move hst rfl rfl ?_)
  clear hst; intro a hst
  refine l_op rfl (r_call (xs := [(Operand.tmp 9)]) hst rfl Ten30 (pscan_c) rfl ?_)
  clear hst; rintro a _ w U ⟨A, c, rfl, htk⟩ hst
  have hst := hst.newFact (G := Sl kTk (.slice A 9 c) tok9) (Sl.mono kTk _ _) htk
  refine l_op rfl (r_move hst rfl rfl ?_)
  clear hst; intro a hst
  refine l_op rfl (r_extract hst rfl rfl rfl ?_)
  clear hst; intro a hst
  refine l_op rfl (r_extract hst rfl rfl rfl ?_)
  clear hst; intro a hst
  refine l_op rfl (r_alloc hst Tz36 rfl ?_)
  clear hst; intro a w g3 hst
  refine l_op rfl (r_assign hst rfl rfl ?_)
  clear hst; intro a hst
  refine l_op rfl (r_store hst rfl rfl rfl Tsz36 rfl (.head (.here (.here (.here (.nil (Nat.zero_le _)))))) ?_)
  clear hst; intro w hst
  refine wpList_nil ?_
  refine then_n ?_
  refine wp_seq ?_
  refine wp_seq ?_
  refine wp_region_lit ?_
  refine l_op rfl (r_fieldAddr hst rfl Tf36_0 rfl ?_)
  clear hst; intro a hst
  refine l_op rfl (r_loads hst rfl Ts34 (.head _) rfl rfl ?_)
  clear hst; intro a hst
  refine l_op rfl (r_bin hst rfl rfl rfl rfl rfl ?_)
  clear hst; intro a hst
  refine wpList_nil ?_
  refine then_n ?_
  refine x_cond hst rfl (fun hc1 => ?_) (fun hc1 => ?_)
  · exact absurd hc1 (by decide)
  try simp only [n1, n2, n3, n4, n5, n6, n7, n8, n9, na, nb] at hc1
  refine wp_skip ?_
  refine then_n ?_
  refine wp_seq ?_
  refine wp_region_lit ?_
  refine l_op rfl (r_move hst rfl rfl ?_)
  clear hst; intro a hst
  refine l_op rfl (r_build (ps := [(0, (Operand.tmp 18))]) hst Tso84 Tz84 (.cons Tf84_0 rfl rfl (.here (.nil (Nat.zero_le _))) (.nil)) rfl ?_)
  clear hst; intro a hst
  refine l_op rfl (r_box hst rfl rfl rfl ?_)
  clear hst; intro a w g4 hst
  refine l_op rfl (r_assign hst rfl rfl ?_)
  clear hst; intro a hst
  refine wpList_nil ?_
  refine then_n ?_
  refine wp_seq ?_
  refine wp_region_lit ?_
  refine l_op rfl (r_alloc hst Tz26 rfl ?_)
  clear hst; intro a w g5 hst
  refine wpList_nil ?_
  refine then_n ?_
  refine wp_seq ?_
  refine wp_block ?_
  have hst := (((hst.keep (ds := [2, 3, 6, 7]) (.cons rfl (.cons rfl (.cons rfl (.cons rfl (.nil)))))).drop (.cons_cons _ (.cons_cons _ (.cons _ (.cons_cons _ (.cons_cons _ (.slnil)))))))).row_nil 42 (sz := 5) (by decide)
  have hst := hst.newFact (G := fun w U => (Cont (.slice none 0 0) [] w U ∧ Flat kA [] [] w U) ∧ Sl kTk (.slice A 9 c) tok9 w U) (Mono.and (Mono.and (Cont.mono _ _) (Flat.mono kA _ _)) (Sl.mono kTk _ _)) ⟨⟨Cont.nil _ _ _, Flat.nil _ _ _⟩, hst.fact⟩
  refine wp_loop_ghost (InvPa w0 U0 g1 g2 g4 g5 A c) 1 ⟨_, 0, 0, _, _, _, _, _, hst, rfl, rfl, rfl, by decide, .inl ⟨rfl, rfl, rfl, rfl⟩⟩ ?_
  clear hst
  rintro mz a w ⟨U, r, l, t, C, cc, xs, us, hst, ht, hxl, hul, hcc, hcs⟩
  refine wp_seq ?_
  refine wp_seq ?_
  refine wp_region_lit ?_
  refine l_op rfl (r_move hst rfl rfl ?_)
  clear hst; intro a hst
  refine l_op rfl (r_callm0 (H1 := [_]) (xs := [(Operand.tmp 21)]) hst rfl rfl Ten31 (ok_m) rfl ?_)
  clear hst; rintro a _ _ w U ⟨rfl, rfl⟩ hst
  simp only [List.cons_append, List.nil_append] at hst
  refine l_op rfl (r_move hst rfl rfl ?_)
  clear hst; intro a hst
  refine l_on hst rfl rfl rfl (r_move hst rfl rfl ?_)
  clear hst; intro a hst
  refine l_on hst rfl rfl rfl (r_callm0 (H1 := [_]) (xs := [(Operand.tmp 24)]) hst rfl rfl Ten32 (now_m (fun _ _ h => by first | exact h.2 | exact h.2.2 | exact h.2.2.2) (by omega) ht) rfl ?_)
  clear hst; rintro a _ _ w U ⟨⟨m1, x1, y1, s1, rfl, hs1⟩, rfl⟩ hst
  simp only [List.cons_append, List.nil_append] at hst
  refine l_on hst rfl rfl rfl (r_fields hst rfl Tfs50_0 rfl rfl ?_)
  clear hst; intro a hst
  refine l_on hst rfl rfl rfl (r_bin hst rfl rfl rfl rfl rfl ?_)
  clear hst; intro a hst
  refine l_op rfl (r_pick hst rfl rfl rfl ?_)
  clear hst; intro a hst
  refine wpList_nil ?_
  refine then_n ?_
  refine x_cond hst rfl (fun hc2 => ?_) (fun hc2 => ?_)
  · try simp only [n1, n2, n3, n4, n5, n6, n7, n8, n9, na, nb] at hc2
    obtain ⟨rfl, rfl, rfl, rfl⟩ : r = 0 ∧ l = 0 ∧ t = (1, []) ∧ mz = 1 := by
      rcases hcs with h | ⟨_, _, rfl, _⟩
      · exact h
      · exact absurd hc2 (by decide)
    refine wp_skip ?_
    refine then_n ?_
    refine wp_block ?_
    refine wp_seq ?_
    refine wp_region_lit ?_
    refine l_op rfl (r_move hst rfl rfl ?_)
    clear hst; intro a hst
    refine l_op rfl (r_callm0 (H1 := [_]) (xs := [(Operand.tmp 29), (Operand.const (Value.int IntKind.i64 1)), (Operand.const (Value.string { data := #[] }))]) hst rfl rfl Ten33 (take_m _ _ (fun _ _ h => by first | exact h.2 | exact h.2.2 | exact h.2.2.2) (by decide) ht rfl (ByteArray.toList_mk _).symm) rfl ?_)
    clear hst; rintro a _ _ w U ⟨rfl, rfl⟩ hst
    simp only [List.cons_append, List.nil_append] at hst
    refine wpList_nil ?_
    refine then_n ?_
    refine wp_seq ?_
    refine wp_region_lit ?_
    refine l_op rfl (r_move hst rfl rfl ?_)
    clear hst; intro a hst
    refine l_op rfl (r_callm0 (H1 := [_]) (xs := [(Operand.tmp 31), (Operand.const (Value.int IntKind.i64 5)), (Operand.const (Value.string { data := #[100, 97, 116, 97] }))]) hst rfl rfl Ten34 (is_m _ _ (fun _ _ h => by first | exact h.2 | exact h.2.2 | exact h.2.2.2) (by decide) tk1) rfl ?_)
    clear hst; rintro a _ _ w U ⟨⟨bi, rfl, hbi⟩, rfl⟩ hst
    have hbt : bi = true := hbi.2 ⟨rfl, (ByteArray.toList_mk _).symm⟩
    subst hbt
    simp only [List.cons_append, List.nil_append] at hst
    refine wpList_nil ?_
    refine then_n ?_
    refine x_cond_t hst rfl ?_
    refine x_drawf (by kernel_rfl) hst (.cons _ (.cons _ (.cons _ (.cons _ (.slnil))))) ?_
    clear hst; intro w hS hst
    refine f_take (i := 0) hS hst (.cons _ (.cons _ (.cons _ (.cons _ (.slnil))))) rfl rfl rfl rfl (by kernel_rfl) (by kernel_rfl) (by kernel_rfl) (fun _ _ _ h => h) (fun _ _ _ _ hst => q_fieldAddr hst rfl Tf26_0) ?_
    clear hst; intro a hst
    refine f_take (i := 2) hS hst (.cons _ (.cons _ (.cons _ (.cons _ (.slnil))))) rfl rfl rfl rfl (by kernel_rfl) (by kernel_rfl) (by kernel_rfl) (fun _ _ _ h => h) (fun _ _ _ _ hst => q_move hst rfl) ?_
    clear hst; intro a hst
    refine f_two (i := 1) (j := 3) (by kernel_rfl) rfl rfl rfl rfl (r_loads hst rfl Ts23 (.head _) rfl rfl ?_) (r_callm0 (H1 := [_]) (xs := [(Operand.tmp 35)]) hst rfl rfl Ten35 (data_m (fun _ _ h => by first | exact h.2 | exact h.2.2 | exact h.2.2.2)) rfl ?_)
    · clear hst; intro a hst
      refine ⟨hst.kept (.cons _ (.cons _ (.cons _ (.cons _ (.slnil))))), ?_⟩
      refine f_one (i := 3) (by kernel_rfl) rfl rfl (r_callm0 (H1 := [_]) (xs := [(Operand.tmp 35)]) hst rfl rfl Ten35 (data_m (fun _ _ h => by first | exact h.2 | exact h.2.2 | exact h.2.2.2)) rfl ?_)
      clear hst; rintro a _ _ w U ⟨⟨s9, x9, y9, C9, d9, rfl⟩, rfl⟩ hst
      simp only [List.cons_append, List.nil_append] at hst
      refine ⟨hst.kept (.cons _ (.cons _ (.cons _ (.cons _ (.slnil))))), ?_⟩
      refine f_one (i := 4) (by kernel_rfl) rfl rfl (r_slice1 hst Tu23 Tsz42 Tz42 rfl (by decide) (by decide) rfl rfl rfl rfl ?_)
      clear hst; intro a w g6 hst
      refine ⟨hst.kept (.cons _ (.cons _ (.cons _ (.cons _ (.cons _ (.slnil)))))), ?_⟩
      refine f_one (i := 5) (by kernel_rfl) rfl rfl (r_append hst rfl rfl Tet23 (.head _) rfl (by decide) rfl hst.fact.2.1.1 hxl (by omega) (by omega) rfl ?_)
      clear hst; intro a v w U hext hcont hv hst
      obtain ⟨B9, c9, rfl, hcc9⟩ := hv
      have hst := hst.newFact (Mono.and (Ext.monoF _ _) (Mono.and (Mono.and (Cont.mono _ _) (Flat.mono kA _ _)) (Sl.mono kTk _ _))) ⟨hst.fact.1, cf_snoc (K := kA) hcont hst.fact.2.1.2 () ⟨_, _, _, _, _, rfl⟩, hst.fact.2.2⟩
      refine ⟨hst.kept (.cons _ (.cons _ (.cons _ (.cons _ (.cons _ (.slnil)))))), ?_⟩
      refine f_take (i := 6) hS hst (.cons _ (.cons _ (.cons _ (.cons _ (.cons _ (.slnil)))))) rfl rfl rfl rfl (by kernel_rfl) (by kernel_rfl) (by kernel_rfl) (fun _ _ _ h => h) (fun _ _ _ _ hst => q_fieldAddr hst rfl Tf26_0) ?_
      clear hst; intro a hst
      refine f_one (i := 7) (by kernel_rfl) rfl rfl (r_store hst rfl rfl rfl Tsz23 rfl (.tail (.head (.here (.nil (Nat.zero_le _))))) ?_)
      clear hst; intro w hst
      refine ⟨hst.kept (.cons _ (.cons _ (.cons _ (.cons _ (.cons _ (.slnil)))))), ?_⟩
      refine f_done (by kernel_rfl) ?_
      have hst := hst.setFact (Mono.and (Mono.and (Cont.mono _ _) (Flat.mono kA _ _)) (Sl.mono kTk _ _)) (fun h => h.2)
      refine inb_n ?_
      have hst := ((hst.keep (ds := [2, 3, 6, 7]) (.cons rfl (.cons rfl (.cons rfl (.cons rfl (.nil)))))).drop (.cons _ (.cons_cons _ (.cons_cons _ (.cons_cons _ (.cons_cons _ (.slnil)))))))
      exact then_k ⟨0, by decide, _, 8, 1, _, _, _, _, _, hst, rfl, by rw [List.length_append, hxl]; rfl, by rw [List.length_append, hul]; rfl, hcc9, .inr ⟨rfl, rfl, rfl, rfl⟩⟩
    clear hst; rintro a _ _ w U ⟨⟨s9, x9, y9, C9, d9, rfl⟩, rfl⟩ hst
    simp only [List.cons_append, List.nil_append] at hst
    refine ⟨hst.kept (.cons _ (.cons _ (.cons _ (.cons _ (.slnil))))), ?_⟩
    refine f_two (i := 1) (j := 4) (by kernel_rfl) rfl rfl rfl rfl (r_loads hst rfl Ts23 (.head _) rfl rfl ?_) (r_slice1 hst Tu23 Tsz42 Tz42 rfl (by decide) (by decide) rfl rfl rfl rfl ?_)
    · clear hst; intro a hst
      refine ⟨hst.kept (.cons _ (.cons _ (.cons _ (.cons _ (.slnil))))), ?_⟩
      refine f_one (i := 4) (by kernel_rfl) rfl rfl (r_slice1 hst Tu23 Tsz42 Tz42 rfl (by decide) (by decide) rfl rfl rfl rfl ?_)
      clear hst; intro a w g6 hst
      refine ⟨hst.kept (.cons _ (.cons _ (.cons _ (.cons _ (.cons _ (.slnil)))))), ?_⟩
      refine f_one (i := 5) (by kernel_rfl) rfl rfl (r_append hst rfl rfl Tet23 (.head _) rfl (by decide) rfl hst.fact.2.1.1 hxl (by omega) (by omega) rfl ?_)
      clear hst; intro a v w U hext hcont hv hst
      obtain ⟨B9, c9, rfl, hcc9⟩ := hv
      have hst := hst.newFact (Mono.and (Ext.monoF _ _) (Mono.and (Mono.and (Cont.mono _ _) (Flat.mono kA _ _)) (Sl.mono kTk _ _))) ⟨hst.fact.1, cf_snoc (K := kA) hcont hst.fact.2.1.2 () ⟨_, _, _, _, _, rfl⟩, hst.fact.2.2⟩
      refine ⟨hst.kept (.cons _ (.cons _ (.cons _ (.cons _ (.cons _ (.slnil)))))), ?_⟩
      refine f_take (i := 6) hS hst (.cons _ (.cons _ (.cons _ (.cons _ (.cons _ (.slnil)))))) rfl rfl rfl rfl (by kernel_rfl) (by kernel_rfl) (by kernel_rfl) (fun _ _ _ h => h) (fun _ _ _ _ hst => q_fieldAddr hst rfl Tf26_0) ?_
      clear hst; intro a hst
      refine f_one (i := 7) (by kernel_rfl) rfl rfl (r_store hst rfl rfl rfl Tsz23 rfl (.tail (.head (.here (.nil (Nat.zero_le _))))) ?_)
      clear hst; intro w hst
      refine ⟨hst.kept (.cons _ (.cons _ (.cons _ (.cons _ (.cons _ (.slnil)))))), ?_⟩
      refine f_done (by kernel_rfl) ?_
      have hst := hst.setFact (Mono.and (Mono.and (Cont.mono _ _) (Flat.mono kA _ _)) (Sl.mono kTk _ _)) (fun h => h.2)
      refine inb_n ?_
      have hst := ((hst.keep (ds := [2, 3, 6, 7]) (.cons rfl (.cons rfl (.cons rfl (.cons rfl (.nil)))))).drop (.cons _ (.cons_cons _ (.cons_cons _ (.cons_cons _ (.cons_cons _ (.slnil)))))))
      exact then_k ⟨0, by decide, _, 8, 1, _, _, _, _, _, hst, rfl, by rw [List.length_append, hxl]; rfl, by rw [List.length_append, hul]; rfl, hcc9, .inr ⟨rfl, rfl, rfl, rfl⟩⟩
    clear hst; intro a w g6 hst
    refine ⟨hst.kept (.cons _ (.cons _ (.cons _ (.cons _ (.cons _ (.slnil)))))), ?_⟩
    refine f_one (i := 1) (by kernel_rfl) rfl rfl (r_loads hst rfl Ts23 (.tail _ (.head _)) rfl rfl ?_)
    clear hst; intro a hst
    refine ⟨hst.kept (.cons _ (.cons _ (.cons _ (.cons _ (.cons _ (.slnil)))))), ?_⟩
    refine f_one (i := 5) (by kernel_rfl) rfl rfl (r_append hst rfl rfl Tet23 (.head _) rfl (by decide) rfl hst.fact.2.1.1 hxl (by omega) (by omega) rfl ?_)
    clear hst; intro a v w U hext hcont hv hst
    obtain ⟨B9, c9, rfl, hcc9⟩ := hv
    have hst := hst.newFact (Mono.and (Ext.monoF _ _) (Mono.and (Mono.and (Cont.mono _ _) (Flat.mono kA _ _)) (Sl.mono kTk _ _))) ⟨hst.fact.1, cf_snoc (K := kA) hcont hst.fact.2.1.2 () ⟨_, _, _, _, _, rfl⟩, hst.fact.2.2⟩
    refine ⟨hst.kept (.cons _ (.cons _ (.cons _ (.cons _ (.cons _ (.slnil)))))), ?_⟩
    refine f_take (i := 6) hS hst (.cons _ (.cons _ (.cons _ (.cons _ (.cons _ (.slnil)))))) rfl rfl rfl rfl (by kernel_rfl) (by kernel_rfl) (by kernel_rfl) (fun _ _ _ h => h) (fun _ _ _ _ hst => q_fieldAddr hst rfl Tf26_0) ?_
    clear hst; intro a hst
    refine f_one (i := 7) (by kernel_rfl) rfl rfl (r_store hst rfl rfl rfl Tsz23 rfl (.tail (.head (.here (.nil (Nat.zero_le _))))) ?_)
    clear hst; intro w hst
    refine ⟨hst.kept (.cons _ (.cons _ (.cons _ (.cons _ (.cons _ (.slnil)))))), ?_⟩
    refine f_done (by kernel_rfl) ?_
    have hst := hst.setFact (Mono.and (Mono.and (Cont.mono _ _) (Flat.mono kA _ _)) (Sl.mono kTk _ _)) (fun h => h.2)
    refine inb_n ?_
    have hst := ((hst.keep (ds := [2, 3, 6, 7]) (.cons rfl (.cons rfl (.cons rfl (.cons rfl (.nil)))))).drop (.cons _ (.cons_cons _ (.cons_cons _ (.cons_cons _ (.cons_cons _ (.slnil)))))))
    exact then_k ⟨0, by decide, _, 8, 1, _, _, _, _, _, hst, rfl, by rw [List.length_append, hxl]; rfl, by rw [List.length_append, hul]; rfl, hcc9, .inr ⟨rfl, rfl, rfl, rfl⟩⟩
  try simp only [n1, n2, n3, n4, n5, n6, n7, n8, n9, na, nb] at hc2
  obtain ⟨rfl, rfl, rfl, rfl⟩ : r = 8 ∧ l = 1 ∧ t = (0, []) ∧ mz = 0 := by
    rcases hcs with ⟨_, _, rfl, _⟩ | h
    · exact absurd hc2 (by decide)
    · exact h
  refine wp_exit ?_
  refine then_x ?_
  refine then_x ?_
  refine inb_hit ?_
  refine then_n ?_
  refine wp_seq ?_
  refine wp_seq ?_
  refine wp_region_lit ?_
  refine l_op rfl (r_move hst rfl rfl ?_)
  clear hst; intro a hst
  refine l_op rfl (r_callm0 (H1 := [_]) (xs := [(Operand.tmp 47)]) hst rfl rfl Ten31 (ok_m) rfl ?_)
  clear hst; rintro a _ _ w U ⟨rfl, rfl⟩ hst
  simp only [List.cons_append, List.nil_append] at hst
  refine l_op rfl (r_not hst rfl rfl ?_)
  clear hst; intro a hst
  refine wpList_nil ?_
  refine then_n ?_
  refine x_cond_f hst rfl ?_
  refine wp_skip ?_
  refine then_n ?_
  refine wp_seq ?_
  refine wp_region_lit ?_
  refine l_op rfl (r_loada hst rfl Ta26 (.head _) (.cons rfl (.cons rfl (.nil))) rfl rfl ?_)
  clear hst; intro a hst
  refine l_op rfl (r_build (ps := []) hst Tso36 Tz36 (.nil) rfl ?_)
  clear hst; intro a hst
  refine l_op rfl (r_store hst rfl rfl rfl Tsz26 rfl (.tail (.tail (.tail (.head (.here (.here (.nil (Nat.zero_le _)))))))) ?_)
  clear hst; intro w hst
  refine l_op rfl (r_store hst rfl rfl rfl Tsz36 rfl (.tail (.tail (.head (.here (.here (.here (.nil (Nat.zero_le _)))))))) ?_)
  clear hst; intro w hst
  refine wpList_nil ?_
  refine then_n ?_
  refine wp_ret ?_
  refine x_ret (rs := [.cell 2 26, .cell 3 36]) hst rfl (.agg rfl Ta26 (.tail _ (.tail _ (.tail _ (.head _)))) rfl (.agg rfl Ta36 (.tail _ (.tail _ (.head _))) rfl (.nil))) ?_
  exact ⟨_, _, rfl, one_of (Sl.of_flat hst.fact.1.1 hst.fact.1.2 hul hcc) hul⟩

def InvSz (w0 : World) (U0 : Mk) (C : Option Addr) (cc : Nat) (g1 : Nat) (mz : Nat) (a : Act) (w : World) : Prop :=
  ∃ (U : Mk) (i : Int), Sta w0 U0 23 [(1, .pointer (some ⟨g1, 0, none⟩)), (3, .int .i64 (2 * i)), (10, .slice C 1 cc), (11, .int .i64 (1 : Nat)), (12, .int .i64 i)] [⟨g1, 26, [.slice C 1 cc, .slice none 0 0]⟩] [] (Sl kA (.slice C 1 cc) one) a w U ∧ 0 ≤ i ∧ i ≤ 1 ∧ mz = (1 - i).toNat

theorem size_c {w0 : World} {U0 : Mk} {C : Option Addr} {cc : Nat} (hF : Sl kA (.slice C 1 cc) one w0 U0) :
    CallsS Tryz.prog 10 [.agg #[.slice C 1 cc, .slice none 0 0]] w0 U0 (fun v _ _ => v = .int .i64 2) := by
  refine x_enter (F := Sl kA (.slice C 1 cc) one) (n := 23) Tryz.func10 rfl rfl (by simp) (.cons (d := 0) rfl (.nil)) (Sl.mono kA _ _) (hF) ?_
  intro a hst
  refine wp_seq ?_
  refine wp_region_lit ?_
  refine l_op rfl (r_box hst rfl rfl rfl ?_)
  clear hst; intro a w g1 hst
  refine l_op rfl (r_assign hst rfl rfl ?_)
  clear hst; intro a hst
  refine wpList_nil ?_
  refine then_n ?_
  refine wp_seq ?_
  refine wp_region_lit ?_
  refine l_op rfl (r_fieldAddr hst rfl Tf26_1 rfl ?_)
  clear hst; intro a hst
  refine l_op rfl (r_loads hst rfl Ts24 (.head _) rfl rfl ?_)
  clear hst; intro a hst
  refine l_op rfl (r_lensl hst rfl Tu24 rfl ?_)
  clear hst; intro a hst
  refine l_op rfl (r_assign hst rfl rfl ?_)
  clear hst; intro a hst
  refine wpList_nil ?_
  refine then_n ?_
  refine wp_seq ?_
  refine wp_seq ?_
  refine wp_region_lit ?_
  refine l_op rfl (r_fieldAddr hst rfl Tf26_0 rfl ?_)
  clear hst; intro a hst
  refine l_op rfl (r_loads hst rfl Ts23 (.head _) rfl rfl ?_)
  clear hst; intro a hst
  refine l_op rfl (r_lensl hst rfl Tu23 rfl ?_)
  clear hst; intro a hst
  refine l_op rfl (r_move hst rfl rfl ?_)
  clear hst; intro a hst
  refine wpList_nil ?_
  refine then_n ?_
  refine wp_block ?_
  have hst := ((hst.keep (ds := [1, 3, 10, 11, 12]) (.cons rfl (.cons rfl (.cons rfl (.cons rfl (.cons rfl (.nil))))))).drop (.cons_cons _ (.slnil)))
  refine wp_loop_ghost (InvSz w0 U0 C cc g1) 1 ⟨_, 0, hst, by omega, by omega, rfl⟩ ?_
  clear hst
  rintro mz a w ⟨U, i, hst, hi0, hi1, rfl⟩
  refine wp_seq ?_
  refine wp_region_lit ?_
  refine l_op rfl (r_bin hst rfl rfl rfl rfl rfl ?_)
  clear hst; intro a hst
  refine wpList_nil ?_
  refine then_n ?_
  refine wp_seq ?_
  refine x_cond hst rfl (fun hc1 => ?_) (fun hc1 => ?_)
  · try simp only [n1, n2, n3, n4, n5, n6, n7, n8, n9, na, nb] at hc1
    refine wp_skip ?_
    refine then_n ?_
    refine wp_seq ?_
    refine wp_block ?_
    refine wp_seq ?_
    obtain ⟨g, o, cs, t, rfl, ht, ⟨s, x, y, D, dd, rfl⟩, hel⟩ := hst.fact.at_ i.toNat (by omega)
    have hst := hst.addFact (Eat.mono _ _ _) hel
    refine wp_region_lit ?_
    refine l_op rfl (r_indexAddr hst rfl rfl Tu23 Tsz42 (hi0) (by omega) rfl ?_)
    clear hst; intro a hst
    refine l_op rfl (r_eata hst rfl Ta42 (hst.fact.1) (j := 0) rfl (.cons rfl (.cons rfl (.cons rfl (.cons rfl (.cons rfl (.nil)))))) rfl rfl ?_)
    clear hst; intro a hst
    refine l_op rfl (r_alloc hst Tz42 rfl ?_)
    clear hst; intro a w g2 hst
    refine l_op rfl (r_store hst rfl rfl rfl Tsz42 rfl (.head (.here (.here (.here (.here (.here (.nil (Nat.zero_le _)))))))) ?_)
    clear hst; intro w hst
    refine wpList_nil ?_
    refine then_n ?_
    refine wp_region_lit ?_
    refine l_op rfl (r_move hst rfl rfl ?_)
    clear hst; intro a hst
    refine l_op rfl (r_fieldAddr hst rfl Tf42_2 rfl ?_)
    clear hst; intro a hst
    refine l_op rfl (r_loads hst rfl Ts40 (.head _) rfl rfl ?_)
    clear hst; intro a hst
    refine l_op rfl (r_lensl hst rfl Tu40 rfl ?_)
    clear hst; intro a hst
    refine l_op rfl (r_bin hst rfl rfl rfl rfl rfl ?_)
    clear hst; intro a hst
    rw [wrap_in _ (by omega) (by omega)] at hst
    refine l_op rfl (r_assign hst rfl rfl ?_)
    clear hst; intro a hst
    refine wpList_nil ?_
    refine inb_n ?_
    refine then_n ?_
    refine wp_region_lit ?_
    refine l_op rfl (r_bin hst rfl rfl rfl rfl rfl ?_)
    clear hst; intro a hst
    rw [wrap_in _ (by omega) (by omega)] at hst
    refine l_op rfl (r_move hst rfl rfl ?_)
    clear hst; intro a hst
    refine wpList_nil ?_
    have hst := (((hst.keep (ds := [1, 3, 10, 11, 12]) (.cons rfl (.cons rfl (.cons rfl (.cons rfl (.cons rfl (.nil))))))).drop (.cons _ (.cons_cons _ (.slnil))))).setFact (Sl.mono kA _ _) (fun h => h.2)
    rw [show 2 * i + ((2 : Nat) : Int) = 2 * (i + 1) by omega] at hst
    exact then_k ⟨_, by omega, _, _, hst, by omega, by omega, rfl⟩
  try simp only [n1, n2, n3, n4, n5, n6, n7, n8, n9, na, nb] at hc1
  refine wp_exit ?_
  refine then_x ?_
  refine then_x ?_
  refine inb_hit ?_
  refine then_n ?_
  refine wp_seq ?_
  refine wp_region_lit ?_
  refine l_op rfl (r_move hst rfl rfl ?_)
  clear hst; intro a hst
  refine l_op rfl (r_assign hst rfl rfl ?_)
  clear hst; intro a hst
  refine wpList_nil ?_
  refine then_n ?_
  refine wp_ret ?_
  refine x_ret (rs := [.tmp 2]) hst rfl (.tmp rfl (.nil)) ?_
  rw [show i = 1 by omega]; rfl

theorem awake_c {w0 : World} {U0 : Mk} :
    CallsS Tryz.prog 4 [] w0 U0 (fun v _ _ => v = .bool true) := by
  refine x_enter (F := fun _ _ => True) (n := 30) Tryz.func4 rfl rfl (by simp) (.nil) (Mono.true_) (trivial) ?_
  intro a hst
  refine wp_seq ?_
  refine wp_region_lit ?_
  refine l_op rfl (r_assign hst rfl rfl ?_)
  clear hst; intro a hst
  refine wpList_nil ?_
  refine then_n ?_
  refine wp_seq ?_
  refine wp_region_lit ?_
  refine l_op rfl (r_call (xs := [(Operand.const (Value.string { data := #[100, 97, 116, 97, 32, 78, 32, 61, 32, 90, 32, 124, 32, 83, 32, 78] }))]) hst rfl Ten9 (parse_c) rfl ?_)
  clear hst; rintro a _ w U ⟨C, cc, rfl, hsl⟩ hst
  have hst := hst.newFact (Sl.mono kA _ _) hsl
  refine l_op rfl (r_move hst rfl rfl ?_)
  clear hst; intro a hst
  refine l_op rfl (r_extract hst rfl rfl rfl ?_)
  clear hst; intro a hst
  refine l_op rfl (r_extract hst rfl rfl rfl ?_)
  clear hst; intro a hst
  refine l_op rfl (r_alloc hst Tz26 rfl ?_)
  clear hst; intro a w g1 hst
  refine l_op rfl (r_alloc hst Tz36 rfl ?_)
  clear hst; intro a w g2 hst
  refine l_op rfl (r_store hst rfl rfl rfl Tsz26 rfl (.tail (.head (.here (.here (.nil (Nat.zero_le _)))))) ?_)
  clear hst; intro w hst
  refine l_op rfl (r_store hst rfl rfl rfl Tsz36 rfl (.head (.here (.here (.here (.nil (Nat.zero_le _)))))) ?_)
  clear hst; intro w hst
  refine wpList_nil ?_
  refine then_n ?_
  refine wp_seq ?_
  obtain ⟨g, o, cs, t, rfl, ht, ⟨s, x, y, D, dd, rfl⟩, hel⟩ := hst.fact.at_ 0 (by decide)
  have hst := hst.addFact (Eat.mono _ _ _) hel
  refine wp_region_lit ?_
  refine l_op rfl (r_fieldAddr hst rfl Tf36_0 rfl ?_)
  clear hst; intro a hst
  refine l_op rfl (r_loads hst rfl Ts34 (.head _) rfl rfl ?_)
  clear hst; intro a hst
  refine l_op rfl (r_bin hst rfl rfl rfl rfl rfl ?_)
  clear hst; intro a hst
  refine l_op rfl (r_move hst rfl rfl ?_)
  clear hst; intro a hst
  refine l_on hst rfl rfl rfl (r_fieldAddr hst rfl Tf26_0 rfl ?_)
  clear hst; intro a hst
  refine l_on hst rfl rfl rfl (r_loads hst rfl Ts23 (.tail _ (.head _)) rfl rfl ?_)
  clear hst; intro a hst
  refine l_on hst rfl rfl rfl (r_lensl hst rfl Tu23 rfl ?_)
  clear hst; intro a hst
  refine l_on hst rfl rfl rfl (r_bin hst rfl rfl rfl rfl rfl ?_)
  clear hst; intro a hst
  refine l_op rfl (r_pick hst rfl rfl rfl ?_)
  clear hst; intro a hst
  refine l_op rfl (r_move hst rfl rfl ?_)
  clear hst; intro a hst
  refine l_on hst rfl rfl rfl (r_fieldAddr hst rfl Tf26_0 rfl ?_)
  clear hst; intro a hst
  refine l_on hst rfl rfl rfl (r_loads hst rfl Ts23 (.tail _ (.head _)) rfl rfl ?_)
  clear hst; intro a hst
  refine l_on hst rfl rfl rfl (r_indexAddr hst rfl rfl Tu23 Tsz42 (by decide) (by decide) rfl ?_)
  clear hst; intro a hst
  refine l_on hst rfl rfl rfl (r_fieldAddr hst rfl Tf42_2 rfl ?_)
  clear hst; intro a hst
  refine l_on hst rfl rfl rfl (r_eats hst rfl Ts40 (hst.fact.1) (j := 2) rfl rfl rfl ?_)
  clear hst; intro a hst
  refine l_on hst rfl rfl rfl (r_lensl hst rfl Tu40 rfl ?_)
  clear hst; intro a hst
  refine l_on hst rfl rfl rfl (r_bin hst rfl rfl rfl rfl rfl ?_)
  clear hst; intro a hst
  refine l_op rfl (r_pick hst rfl rfl rfl ?_)
  clear hst; intro a hst
  refine l_op rfl (r_move hst rfl rfl ?_)
  clear hst; intro a hst
  refine l_on hst rfl rfl rfl (r_loada hst rfl Ta26 (.tail _ (.head _)) (.cons rfl (.cons rfl (.nil))) rfl rfl ?_)
  clear hst; intro a hst
  refine l_on hst rfl rfl rfl (r_call (xs := [(Operand.tmp 26)]) hst rfl Ten10 (size_c hst.fact.2) rfl ?_)
  clear hst; rintro a _ w U rfl hst
  refine l_on hst rfl rfl rfl (r_bin hst rfl rfl rfl rfl rfl ?_)
  clear hst; intro a hst
  refine l_op rfl (r_pick hst rfl rfl rfl ?_)
  clear hst; intro a hst
  refine l_op rfl (r_assign hst rfl rfl ?_)
  clear hst; intro a hst
  refine wpList_nil ?_
  refine then_n ?_
  refine wp_ret ?_
  refine x_ret (rs := [.tmp 0]) hst rfl (.tmp rfl (.nil)) ?_
  rfl
end Go.Proofs.YtjnjkbmegfkiiaaGreat
