/- The law: it returns true, whatever texts it is handed. -/
import Derived.Test.YtjnjkbmegfkiiaaGreatR6
import Derived.Test.YtjnjkbmegfkiiaaGreatR10
import Derived.Test.YtjnjkbmegfkiiaaGreatR11
import Derived.Test.YtjnjkbmegfkiiaaGreatR16
namespace Go.Proofs.YtjnjkbmegfkiiaaGreat
open Go.RowKit
set_option maxRecDepth 10000
set_option linter.unusedVariables false
set_option linter.unusedSimpArgs false
attribute [local irreducible] Oper.wp Code.wp wpList wpAny wpOp Calls CallsS
/-- A module that reads as these declarations and rules. -/
def MFm (v1 v2 : Value) (ts : List DaT) (ps : List RuT) : Fact := fun w U => Sl (kDn 100000001) v1 ts w U ∧ Sl (kRn 100000001) v2 ps w U
theorem MFm.mono (v1 v2 : Value) (ts : List DaT) (ps : List RuT) : Mono (MFm v1 v2 ts ps) := Mono.and (Sl.mono _ _ _) (Sl.mono _ _ _)
theorem MFm.of {v1 v2 : Value} {ts : List DaT} {ps : List RuT} {w : World} {U : Mk} (h : Sl kD v1 ts w U ∧ Sl kR v2 ps w U) : MFm v1 v2 ts ps w U := ⟨Sl.lift h.1 rfl (upD (by omega)), Sl.lift h.2 rfl (upR (by omega))⟩
section
variable {w : World} {U : Mk} {v1 v2 u1 u2 : Value} {ts us : List DaT} {ps qs : List RuT}
theorem cmp7 (h : MFm v1 v2 ts ps w U) (h' : MFm u1 u2 us qs w U) : CallsS Tryz.prog 7 [.agg #[v1, v2], .agg #[u1, u2]] w U (fun v _ _ => ∃ b : Bool, v = .bool b ∧ (b = true ↔ ts = us ∧ ps = qs)) := by
  obtain ⟨A, l, c, rfl⟩ := h.1.slice
  obtain ⟨B, j, d, rfl⟩ := h.2.slice
  obtain ⟨A', l', c', rfl⟩ := h'.1.slice
  obtain ⟨B', j', d', rfl⟩ := h'.2.slice
  exact psamemod_c _ _ _ _ ⟨⟨h.1, h'.1⟩, ⟨h.2, h'.2⟩⟩
theorem cmp8 (h : MFm v1 v2 ts ps w U) (h' : MFm u1 u2 us qs w U) : CallsS Tryz.prog 8 [.agg #[v1, v2], .agg #[u1, u2]] w U (fun v _ _ => ∃ b : Bool, v = .bool b ∧ (b = true ↔ ts = us ∧ ps = qs)) := by
  obtain ⟨A, l, c, rfl⟩ := h.1.slice
  obtain ⟨B, j, d, rfl⟩ := h.2.slice
  obtain ⟨A', l', c', rfl⟩ := h'.1.slice
  obtain ⟨B', j', d', rfl⟩ := h'.2.slice
  exact samemod_c _ _ _ _ ⟨⟨h.1, h'.1⟩, ⟨h.2, h'.2⟩⟩
end
theorem beq_iff {b c : Bool} {p q : Prop} (h : b = true ↔ p) (h' : c = true ↔ q) (e : p ↔ q) : (b == c) = true := by
  have : b = c := Bool.eq_iff_iff.2 (h.trans (e.trans h'.symm))
  rw [this, beq_self_eq_true]

theorem law_c {w0 : World} {U0 : Mk} (s t : ByteArray) (k : Int) (name : ByteArray) (hs : s.size ≤ 140737488351232) (ht : t.size ≤ 140737488351232) (hk1 : -9223372036854775808 ≤ k) (hk2 : k ≤ 9223372036854775807) :
    CallsS Tryz.prog 3 [.string s, .string t, .int .i64 k, .string name] w0 U0 (fun v _ _ => v = .bool true) := by
  refine x_enter (F := fun _ _ => True) (n := 97) Tryz.func3 rfl rfl (by simp) (.cons (d := 0) rfl (.cons (d := 1) rfl (.cons (d := 2) rfl (.cons (d := 3) rfl (.nil))))) (Mono.true_) (trivial) ?_
  intro a hst
  refine wp_seq ?_
  refine wp_region_lit ?_
  refine l_op rfl (r_assign hst rfl rfl ?_)
  clear hst; intro a hst
  refine wpList_nil ?_
  refine then_n ?_
  refine wp_seq ?_
  refine wp_seq ?_
  refine wp_region_lit ?_
  refine l_op rfl (r_call (xs := []) hst rfl Ten4 (awake_c) rfl ?_)
  clear hst; rintro a _ w U rfl hst
  refine l_op rfl (r_not hst rfl rfl ?_)
  clear hst; intro a hst
  refine wpList_nil ?_
  refine then_n ?_
  refine x_cond_f hst rfl ?_
  refine wp_skip ?_
  refine then_n ?_
  refine wp_seq ?_
  refine wp_region_lit ?_
  refine l_op rfl (r_move hst rfl rfl ?_)
  clear hst; intro a hst
  refine l_op rfl (r_call (xs := [(Operand.tmp 22)]) hst rfl Ten5 (module_c _ (by omega)) rfl ?_)
  clear hst; rintro a _ w U ⟨Ax, Bx, lx, cx, jx, dx, ex, px, qx, tx, rx, rfl, hx1, hx2, hxl, hxj⟩ hst
  have hst := hst.addFact (Mono.and (Sl.mono _ _ _) (Sl.mono _ _ _)) ⟨hx1, hx2⟩
  refine l_op rfl (r_move hst rfl rfl ?_)
  clear hst; intro a hst
  refine l_op rfl (r_extract hst rfl rfl rfl ?_)
  clear hst; intro a hst
  refine l_op rfl (r_extract hst rfl rfl rfl ?_)
  clear hst; intro a hst
  refine l_op rfl (r_extract hst rfl rfl rfl ?_)
  clear hst; intro a hst
  refine l_op rfl (r_alloc hst Tz26 rfl ?_)
  clear hst; intro a w g1 hst
  refine l_op rfl (r_alloc hst Tz28 rfl ?_)
  clear hst; intro a w g2 hst
  refine l_op rfl (r_store hst rfl rfl rfl Tsz26 rfl (.tail (.head (.here (.here (.nil (Nat.zero_le _)))))) ?_)
  clear hst; intro w hst
  refine l_op rfl (r_assign hst rfl rfl ?_)
  clear hst; intro a hst
  refine l_op rfl (r_store hst rfl rfl rfl Tsz28 rfl (.head (.here (.here (.nil (Nat.zero_le _))))) ?_)
  clear hst; intro w hst
  refine wpList_nil ?_
  refine then_n ?_
  refine wp_seq ?_
  refine wp_region_lit ?_
  refine l_op rfl (r_move hst rfl rfl ?_)
  clear hst; intro a hst
  refine l_op rfl (r_call (xs := [(Operand.tmp 28)]) hst rfl Ten5 (module_c _ (by omega)) rfl ?_)
  clear hst; rintro a _ w U ⟨Ay, By, ly, cy, jy, dy, ey, py, qy, ty, ry, rfl, hy1, hy2, hyl, hyj⟩ hst
  have hst := hst.addFact (Mono.and (Sl.mono _ _ _) (Sl.mono _ _ _)) ⟨hy1, hy2⟩
  refine l_op rfl (r_move hst rfl rfl ?_)
  clear hst; intro a hst
  refine l_op rfl (r_extract hst rfl rfl rfl ?_)
  clear hst; intro a hst
  refine l_op rfl (r_extract hst rfl rfl rfl ?_)
  clear hst; intro a hst
  refine l_op rfl (r_extract hst rfl rfl rfl ?_)
  clear hst; intro a hst
  refine l_op rfl (r_alloc hst Tz26 rfl ?_)
  clear hst; intro a w g3 hst
  refine l_op rfl (r_alloc hst Tz28 rfl ?_)
  clear hst; intro a w g4 hst
  refine l_op rfl (r_store hst rfl rfl rfl Tsz26 rfl (.tail (.head (.here (.here (.nil (Nat.zero_le _)))))) ?_)
  clear hst; intro w hst
  refine l_op rfl (r_assign hst rfl rfl ?_)
  clear hst; intro a hst
  refine l_op rfl (r_store hst rfl rfl rfl Tsz28 rfl (.head (.here (.here (.nil (Nat.zero_le _))))) ?_)
  clear hst; intro w hst
  refine wpList_nil ?_
  refine then_n ?_
  refine wp_seq ?_
  refine wp_seq ?_
  refine wp_region_lit ?_
  refine l_op rfl (r_move hst rfl rfl ?_)
  clear hst; intro a hst
  refine l_op rfl (r_bin hst rfl rfl rfl rfl rfl ?_)
  clear hst; intro a hst
  refine l_op rfl (r_move hst rfl rfl ?_)
  clear hst; intro a hst
  refine hst.split (t := 35) rfl (fun hc1 hst => ?_) (fun hc1 hst => ?_)
  · try simp only [n1, n2, n3, n4, n5, n6, n7, n8, n9, na, nb] at hc1
    refine l_off hst rfl rfl rfl (by decide) rfl rfl ?_
    clear hst; intro a hst
    refine l_off hst rfl rfl rfl (by decide) rfl rfl ?_
    clear hst; intro a hst
    refine l_op rfl (r_pick hst rfl rfl rfl ?_)
    clear hst; intro a hst
    refine wpList_nil ?_
    refine then_n ?_
    refine x_cond_t hst rfl ?_
    refine wp_seq ?_
    refine wp_region_lit ?_
    refine l_op rfl (r_assign hst rfl rfl ?_)
    clear hst; intro a hst
    refine wpList_nil ?_
    refine then_n ?_
    refine wp_ret ?_
    refine then_r ?_
    refine x_ret (rs := [.tmp 8]) hst rfl (.tmp rfl (.nil)) ?_
    rfl
  try simp only [n1, n2, n3, n4, n5, n6, n7, n8, n9, na, nb] at hc1
  refine l_on hst rfl rfl rfl (r_move hst rfl rfl ?_)
  clear hst; intro a hst
  refine l_on hst rfl rfl rfl (r_bin hst rfl rfl rfl rfl rfl ?_)
  clear hst; intro a hst
  refine l_op rfl (r_pick hst rfl rfl rfl ?_)
  clear hst; intro a hst
  refine wpList_nil ?_
  refine then_n ?_
  refine x_cond hst rfl (fun hc2 => ?_) (fun hc2 => ?_)
  · try simp only [n1, n2, n3, n4, n5, n6, n7, n8, n9, na, nb] at hc2
    refine wp_seq ?_
    refine wp_region_lit ?_
    refine l_op rfl (r_assign hst rfl rfl ?_)
    clear hst; intro a hst
    refine wpList_nil ?_
    refine then_n ?_
    refine wp_ret ?_
    refine then_r ?_
    refine x_ret (rs := [.tmp 8]) hst rfl (.tmp rfl (.nil)) ?_
    rfl
  try simp only [n1, n2, n3, n4, n5, n6, n7, n8, n9, na, nb] at hc2
  refine wp_skip ?_
  refine then_n ?_
  refine wp_seq ?_
  have h1 : ({ data := #[10] } : ByteArray).size = 1 := rfl
  have hnl : ({ data := #[10] } : ByteArray).size + s.size ≤ 9223372036854775807 := by omega
  have hnl2 : (({ data := #[10] } : ByteArray) ++ s).size ≤ 140737488355328 := by rw [ByteArray.size_append]; omega
  refine wp_region_lit ?_
  refine l_op rfl (r_move hst rfl rfl ?_)
  clear hst; intro a hst
  refine l_op rfl (r_concat hst rfl rfl hnl rfl ?_)
  clear hst; intro a hst
  refine l_op rfl (r_call (xs := [(Operand.tmp 41)]) hst rfl Ten5 (module_c _ (hnl2)) rfl ?_)
  clear hst; rintro a _ w U ⟨Ad, Bd, ld, cd, jd, dd, ed, pd, qd, td, rd, rfl, hd1, hd2, hdl, hdj⟩ hst
  have hst := hst.addFact (Mono.and (Sl.mono _ _ _) (Sl.mono _ _ _)) ⟨hd1, hd2⟩
  refine l_op rfl (r_move hst rfl rfl ?_)
  clear hst; intro a hst
  refine l_op rfl (r_extract hst rfl rfl rfl ?_)
  clear hst; intro a hst
  refine l_op rfl (r_extract hst rfl rfl rfl ?_)
  clear hst; intro a hst
  refine l_op rfl (r_extract hst rfl rfl rfl ?_)
  clear hst; intro a hst
  refine l_op rfl (r_alloc hst Tz26 rfl ?_)
  clear hst; intro a w g5 hst
  refine l_op rfl (r_alloc hst Tz28 rfl ?_)
  clear hst; intro a w g6 hst
  refine l_op rfl (r_store hst rfl rfl rfl Tsz26 rfl (.tail (.head (.here (.here (.nil (Nat.zero_le _)))))) ?_)
  clear hst; intro w hst
  refine l_op rfl (r_assign hst rfl rfl ?_)
  clear hst; intro a hst
  refine l_op rfl (r_store hst rfl rfl rfl Tsz28 rfl (.head (.here (.here (.nil (Nat.zero_le _))))) ?_)
  clear hst; intro w hst
  refine wpList_nil ?_
  refine then_n ?_
  refine wp_seq ?_
  refine wp_region_lit ?_
  refine l_op rfl (r_loada hst rfl Ta26 (.tail _ (.tail _ (.tail _ (.tail _ (.tail _ (.head _)))))) (.cons rfl (.cons rfl (.nil))) rfl rfl ?_)
  clear hst; intro a hst
  refine l_op rfl (r_move hst rfl rfl ?_)
  clear hst; intro a hst
  refine l_op rfl (r_move hst rfl rfl ?_)
  clear hst; intro a hst
  refine l_op rfl (r_call (xs := [(Operand.tmp 46), (Operand.tmp 47), (Operand.tmp 48)]) hst rfl Ten6 (turned_c k name tx rx hst.fact.2.2.1 hxl hxj hk1 hk2) rfl ?_)
  clear hst; rintro a _ w U ⟨w1, w2, tw, rw_, rfl, hw1, hw2⟩ hst
  obtain ⟨Aw, lw, cw, rfl⟩ := hw1.slice
  obtain ⟨Bw, jw, dw, rfl⟩ := hw2.slice
  have hst := hst.addFact (MFm.mono _ _ _ _) ⟨hw1, hw2⟩
  refine l_op rfl (r_alloc hst Tz26 rfl ?_)
  clear hst; intro a w g7 hst
  refine l_op rfl (r_store hst rfl rfl rfl Tsz26 rfl (.head (.here (.here (.nil (Nat.zero_le _))))) ?_)
  clear hst; intro w hst
  refine wpList_nil ?_
  refine then_n ?_
  refine wp_seq ?_
  have hst := hst.newFact (G := fun w U => (MFm (.slice Ax lx cx) (.slice Bx jx dx) tx rx w U ∧ MFm (.slice Ay ly cy) (.slice By jy dy) ty ry w U) ∧ (MFm (.slice Ad ld cd) (.slice Bd jd dd) td rd w U ∧ MFm (.slice Aw lw cw) (.slice Bw jw dw) tw rw_ w U)) (Mono.and (Mono.and (MFm.mono _ _ _ _) (MFm.mono _ _ _ _)) (Mono.and (MFm.mono _ _ _ _) (MFm.mono _ _ _ _))) ⟨⟨MFm.of hst.fact.2.2.2.1, MFm.of hst.fact.2.2.1⟩, ⟨MFm.of hst.fact.2.1, hst.fact.1⟩⟩
  refine x_drawf (by kernel_rfl) hst (.cons_cons _ (.cons _ (.cons_cons _ (.cons _ (.cons_cons _ (.cons _ (.cons_cons _ (.slnil)))))))) ?_
  clear hst; intro w hS hst
  refine f_take (i := 0) hS hst (.cons_cons _ (.cons _ (.cons_cons _ (.cons _ (.cons_cons _ (.cons _ (.cons_cons _ (.slnil)))))))) rfl rfl rfl rfl (by kernel_rfl) (by kernel_rfl) (by kernel_rfl) (fun _ _ _ h => h) (fun _ _ _ _ hst => q_loada hst rfl Ta26 (.tail _ (.tail _ (.tail _ (.head _)))) (.cons rfl (.cons rfl (.nil))) rfl) ?_
  clear hst; intro a hst
  refine f_take (i := 1) hS hst (.cons_cons _ (.cons _ (.cons_cons _ (.cons _ (.cons_cons _ (.cons _ (.cons_cons _ (.slnil)))))))) rfl rfl rfl rfl (by kernel_rfl) (by kernel_rfl) (by kernel_rfl) (fun _ _ _ h => h) (fun _ _ _ _ hst => q_loada hst rfl Ta26 (.tail _ (.tail _ (.head _))) (.cons rfl (.cons rfl (.nil))) rfl) ?_
  clear hst; intro a hst
  refine f_take (i := 3) hS hst (.cons_cons _ (.cons _ (.cons_cons _ (.cons _ (.cons_cons _ (.cons _ (.cons_cons _ (.slnil)))))))) rfl rfl rfl rfl (by kernel_rfl) (by kernel_rfl) (by kernel_rfl) (fun _ _ _ h => h) (fun _ _ _ _ hst => q_loada hst rfl Ta26 (.tail _ (.tail _ (.tail _ (.head _)))) (.cons rfl (.cons rfl (.nil))) rfl) ?_
  clear hst; intro a hst
  refine f_take (i := 4) hS hst (.cons_cons _ (.cons _ (.cons_cons _ (.cons _ (.cons_cons _ (.cons _ (.cons_cons _ (.slnil)))))))) rfl rfl rfl rfl (by kernel_rfl) (by kernel_rfl) (by kernel_rfl) (fun _ _ _ h => h) (fun _ _ _ _ hst => q_loada hst rfl Ta26 (.tail _ (.tail _ (.head _))) (.cons rfl (.cons rfl (.nil))) rfl) ?_
  clear hst; intro a hst
  refine f_one (i := 2) (by kernel_rfl) rfl rfl (r_call (xs := [(Operand.tmp 50), (Operand.tmp 51)]) hst rfl Ten7 (cmp7 hst.fact.2.1.1 hst.fact.2.1.2) rfl ?_)
  clear hst; rintro a _ w U ⟨bb1, rfl, hbb1⟩ hst
  refine ⟨hst.kept (.cons_cons _ (.cons _ (.cons_cons _ (.cons _ (.cons_cons _ (.cons _ (.cons_cons _ (.slnil)))))))), ?_⟩
  refine f_one (i := 5) (by kernel_rfl) rfl rfl (r_call (xs := [(Operand.tmp 53), (Operand.tmp 54)]) hst rfl Ten8 (cmp8 hst.fact.2.1.1 hst.fact.2.1.2) rfl ?_)
  clear hst; rintro a _ w U ⟨bb2, rfl, hbb2⟩ hst
  refine ⟨hst.kept (.cons_cons _ (.cons _ (.cons_cons _ (.cons _ (.cons_cons _ (.cons _ (.cons_cons _ (.slnil)))))))), ?_⟩
  refine f_take (i := 6) hS hst (.cons_cons _ (.cons _ (.cons_cons _ (.cons _ (.cons_cons _ (.cons _ (.cons_cons _ (.slnil)))))))) rfl rfl rfl rfl (by kernel_rfl) (by kernel_rfl) (by kernel_rfl) (fun _ _ _ h => h) (fun _ _ _ _ hst => q_eqb hst rfl rfl Tu4) ?_
  clear hst; intro a hst
  rw [beq_iff hbb1 hbb2 Iff.rfl] at hst
  refine f_take (i := 7) hS hst (.cons_cons _ (.cons _ (.cons_cons _ (.cons _ (.cons_cons _ (.cons _ (.cons_cons _ (.slnil)))))))) rfl rfl rfl rfl (by kernel_rfl) (by kernel_rfl) (by kernel_rfl) (fun _ _ _ h => h) (fun _ _ _ _ hst => q_move hst rfl) ?_
  clear hst; intro a hst
  refine f_takeg (i := 8) hS hst (.cons_cons _ (.cons _ (.cons_cons _ (.cons _ (.cons_cons _ (.cons _ (.cons_cons _ (.slnil)))))))) rfl rfl rfl rfl rfl rfl (by kernel_rfl) (by kernel_rfl) (by kernel_rfl) (fun _ _ _ h => h) (fun _ _ _ _ hst => q_loada hst rfl Ta26 (.tail _ (.tail _ (.head _))) (.cons rfl (.cons rfl (.nil))) rfl) ?_
  clear hst; intro a hst
  refine f_takeg (i := 9) hS hst (.cons_cons _ (.cons _ (.cons_cons _ (.cons _ (.cons_cons _ (.cons _ (.cons_cons _ (.slnil)))))))) rfl rfl rfl rfl rfl rfl (by kernel_rfl) (by kernel_rfl) (by kernel_rfl) (fun _ _ _ h => h) (fun _ _ _ _ hst => q_loada hst rfl Ta26 (.tail _ (.tail _ (.tail _ (.head _)))) (.cons rfl (.cons rfl (.nil))) rfl) ?_
  clear hst; intro a hst
  refine f_takeg (i := 11) hS hst (.cons_cons _ (.cons _ (.cons_cons _ (.cons _ (.cons_cons _ (.cons _ (.cons_cons _ (.slnil)))))))) rfl rfl rfl rfl rfl rfl (by kernel_rfl) (by kernel_rfl) (by kernel_rfl) (fun _ _ _ h => h) (fun _ _ _ _ hst => q_loada hst rfl Ta26 (.tail _ (.tail _ (.tail _ (.head _)))) (.cons rfl (.cons rfl (.nil))) rfl) ?_
  clear hst; intro a hst
  refine f_takeg (i := 12) hS hst (.cons_cons _ (.cons _ (.cons_cons _ (.cons _ (.cons_cons _ (.cons _ (.cons_cons _ (.slnil)))))))) rfl rfl rfl rfl rfl rfl (by kernel_rfl) (by kernel_rfl) (by kernel_rfl) (fun _ _ _ h => h) (fun _ _ _ _ hst => q_loada hst rfl Ta26 (.tail _ (.tail _ (.head _))) (.cons rfl (.cons rfl (.nil))) rfl) ?_
  clear hst; intro a hst
  refine f_oneg (i := 10) hst (by kernel_rfl) rfl rfl rfl rfl (r_call (xs := [(Operand.tmp 58), (Operand.tmp 59)]) hst rfl Ten7 (cmp7 hst.fact.2.1.2 hst.fact.2.1.1) rfl ?_)
  clear hst; rintro a _ w U ⟨bb3, rfl, hbb3⟩ hst
  refine ⟨hst.kept (.cons_cons _ (.cons _ (.cons_cons _ (.cons _ (.cons_cons _ (.cons _ (.cons_cons _ (.slnil)))))))), ?_⟩
  refine f_oneg (i := 13) hst (by kernel_rfl) rfl rfl rfl rfl (r_call (xs := [(Operand.tmp 61), (Operand.tmp 62)]) hst rfl Ten8 (cmp8 hst.fact.2.1.1 hst.fact.2.1.2) rfl ?_)
  clear hst; rintro a _ w U ⟨bb4, rfl, hbb4⟩ hst
  refine ⟨hst.kept (.cons_cons _ (.cons _ (.cons_cons _ (.cons _ (.cons_cons _ (.cons _ (.cons_cons _ (.slnil)))))))), ?_⟩
  refine f_takeg (i := 14) hS hst (.cons_cons _ (.cons _ (.cons_cons _ (.cons _ (.cons_cons _ (.cons _ (.cons_cons _ (.slnil)))))))) rfl rfl rfl rfl rfl rfl (by kernel_rfl) (by kernel_rfl) (by kernel_rfl) (fun _ _ _ h => h) (fun _ _ _ _ hst => q_eqb hst rfl rfl Tu4) ?_
  clear hst; intro a hst
  rw [beq_iff hbb3 hbb4 (and_congr eq_comm eq_comm)] at hst
  refine f_take (i := 15) hS hst (.cons_cons _ (.cons _ (.cons_cons _ (.cons _ (.cons_cons _ (.cons _ (.cons_cons _ (.slnil)))))))) rfl rfl rfl rfl (by kernel_rfl) (by kernel_rfl) (by kernel_rfl) (fun _ _ _ h => h) (fun _ _ _ _ hst => q_pick hst rfl rfl) ?_
  clear hst; intro a hst
  refine f_take (i := 16) hS hst (.cons_cons _ (.cons _ (.cons_cons _ (.cons _ (.cons_cons _ (.cons _ (.cons_cons _ (.slnil)))))))) rfl rfl rfl rfl (by kernel_rfl) (by kernel_rfl) (by kernel_rfl) (fun _ _ _ h => h) (fun _ _ _ _ hst => q_move hst rfl) ?_
  clear hst; intro a hst
  refine f_takeg (i := 17) hS hst (.cons_cons _ (.cons _ (.cons_cons _ (.cons _ (.cons_cons _ (.cons _ (.cons_cons _ (.slnil)))))))) rfl rfl rfl rfl rfl rfl (by kernel_rfl) (by kernel_rfl) (by kernel_rfl) (fun _ _ _ h => h) (fun _ _ _ _ hst => q_move hst rfl) ?_
  clear hst; intro a hst
  refine f_takeg (i := 18) hS hst (.cons_cons _ (.cons _ (.cons_cons _ (.cons _ (.cons_cons _ (.cons _ (.cons_cons _ (.slnil)))))))) rfl rfl rfl rfl rfl rfl (by kernel_rfl) (by kernel_rfl) (by kernel_rfl) (fun _ _ _ h => h) (fun _ _ _ _ hst => q_bin hst rfl rfl rfl rfl) ?_
  clear hst; intro a hst
  refine f_takeg (i := 19) hS hst (.cons_cons _ (.cons _ (.cons_cons _ (.cons _ (.cons_cons _ (.cons _ (.cons_cons _ (.slnil)))))))) rfl rfl rfl rfl rfl rfl (by kernel_rfl) (by kernel_rfl) (by kernel_rfl) (fun _ _ _ h => h) (fun _ _ _ _ hst => q_move hst rfl) ?_
  clear hst; intro a hst
  refine hst.split (t := 69) rfl (fun hc3 hst => ?_) (fun hc3 hst => ?_)
  · try simp only [n1, n2, n3, n4, n5, n6, n7, n8, n9, na, nb] at hc3
    refine f_skip (i := 20) hst (.cons_cons _ (.cons _ (.cons_cons _ (.cons _ (.cons_cons _ (.cons _ (.cons_cons _ (.slnil)))))))) rfl rfl rfl rfl (by decide) rfl rfl (by kernel_rfl) (by kernel_rfl) (by kernel_rfl) (fun _ _ _ h => h) ?_
    clear hst; intro a hst
    refine f_skip (i := 21) hst (.cons_cons _ (.cons _ (.cons_cons _ (.cons _ (.cons_cons _ (.cons _ (.cons_cons _ (.slnil)))))))) rfl rfl rfl rfl (by decide) rfl rfl (by kernel_rfl) (by kernel_rfl) (by kernel_rfl) (fun _ _ _ h => h) ?_
    clear hst; intro a hst
    refine f_skip (i := 22) hst (.cons_cons _ (.cons _ (.cons_cons _ (.cons _ (.cons_cons _ (.cons _ (.cons_cons _ (.slnil)))))))) rfl rfl rfl rfl (by decide) rfl rfl (by kernel_rfl) (by kernel_rfl) (by kernel_rfl) (fun _ _ _ h => h) ?_
    clear hst; intro a hst
    refine f_skip (i := 23) hst (.cons_cons _ (.cons _ (.cons_cons _ (.cons _ (.cons_cons _ (.cons _ (.cons_cons _ (.slnil)))))))) rfl rfl rfl rfl (by decide) rfl rfl (by kernel_rfl) (by kernel_rfl) (by kernel_rfl) (fun _ _ _ h => h) ?_
    clear hst; intro a hst
    refine f_skip (i := 24) hst (.cons_cons _ (.cons _ (.cons_cons _ (.cons _ (.cons_cons _ (.cons _ (.cons_cons _ (.slnil)))))))) rfl rfl rfl rfl (by decide) rfl rfl (by kernel_rfl) (by kernel_rfl) (by kernel_rfl) (fun _ _ _ h => h) ?_
    clear hst; intro a hst
    refine f_skip (i := 25) hst (.cons_cons _ (.cons _ (.cons_cons _ (.cons _ (.cons_cons _ (.cons _ (.cons_cons _ (.slnil)))))))) rfl rfl rfl rfl (by decide) rfl rfl (by kernel_rfl) (by kernel_rfl) (by kernel_rfl) (fun _ _ _ h => h) ?_
    clear hst; intro a hst
    refine f_skip (i := 26) hst (.cons_cons _ (.cons _ (.cons_cons _ (.cons _ (.cons_cons _ (.cons _ (.cons_cons _ (.slnil)))))))) rfl rfl rfl rfl (by decide) rfl rfl (by kernel_rfl) (by kernel_rfl) (by kernel_rfl) (fun _ _ _ h => h) ?_
    clear hst; intro a hst
    refine f_takeg (i := 27) hS hst (.cons_cons _ (.cons _ (.cons_cons _ (.cons _ (.cons_cons _ (.cons _ (.cons_cons _ (.slnil)))))))) rfl rfl rfl rfl rfl rfl (by kernel_rfl) (by kernel_rfl) (by kernel_rfl) (fun _ _ _ h => h) (fun _ _ _ _ hst => q_pick hst rfl rfl) ?_
    clear hst; intro a hst
    refine f_take (i := 28) hS hst (.cons_cons _ (.cons _ (.cons_cons _ (.cons _ (.cons_cons _ (.cons _ (.cons_cons _ (.slnil)))))))) rfl rfl rfl rfl (by kernel_rfl) (by kernel_rfl) (by kernel_rfl) (fun _ _ _ h => h) (fun _ _ _ _ hst => q_pick hst rfl rfl) ?_
    clear hst; intro a hst
    refine f_take (i := 29) hS hst (.cons_cons _ (.cons _ (.cons_cons _ (.cons _ (.cons_cons _ (.cons _ (.cons_cons _ (.slnil)))))))) rfl rfl rfl rfl (by kernel_rfl) (by kernel_rfl) (by kernel_rfl) (fun _ _ _ h => h) (fun _ _ _ _ hst => q_move hst rfl) ?_
    clear hst; intro a hst
    refine f_takeg (i := 30) hS hst (.cons_cons _ (.cons _ (.cons_cons _ (.cons _ (.cons_cons _ (.cons _ (.cons_cons _ (.slnil)))))))) rfl rfl rfl rfl rfl rfl (by kernel_rfl) (by kernel_rfl) (by kernel_rfl) (fun _ _ _ h => h) (fun _ _ _ _ hst => q_loada hst rfl Ta26 (.tail _ (.tail _ (.tail _ (.head _)))) (.cons rfl (.cons rfl (.nil))) rfl) ?_
    clear hst; intro a hst
    refine f_takeg (i := 31) hS hst (.cons_cons _ (.cons _ (.cons_cons _ (.cons _ (.cons_cons _ (.cons _ (.cons_cons _ (.slnil)))))))) rfl rfl rfl rfl rfl rfl (by kernel_rfl) (by kernel_rfl) (by kernel_rfl) (fun _ _ _ h => h) (fun _ _ _ _ hst => q_loada hst rfl Ta26 (.head _) (.cons rfl (.cons rfl (.nil))) rfl) ?_
    clear hst; intro a hst
    refine f_takeg (i := 33) hS hst (.cons_cons _ (.cons _ (.cons_cons _ (.cons _ (.cons_cons _ (.cons _ (.cons_cons _ (.slnil)))))))) rfl rfl rfl rfl rfl rfl (by kernel_rfl) (by kernel_rfl) (by kernel_rfl) (fun _ _ _ h => h) (fun _ _ _ _ hst => q_loada hst rfl Ta26 (.tail _ (.tail _ (.tail _ (.head _)))) (.cons rfl (.cons rfl (.nil))) rfl) ?_
    clear hst; intro a hst
    refine f_takeg (i := 34) hS hst (.cons_cons _ (.cons _ (.cons_cons _ (.cons _ (.cons_cons _ (.cons _ (.cons_cons _ (.slnil)))))))) rfl rfl rfl rfl rfl rfl (by kernel_rfl) (by kernel_rfl) (by kernel_rfl) (fun _ _ _ h => h) (fun _ _ _ _ hst => q_loada hst rfl Ta26 (.head _) (.cons rfl (.cons rfl (.nil))) rfl) ?_
    clear hst; intro a hst
    refine f_oneg (i := 32) hst (by kernel_rfl) rfl rfl rfl rfl (r_call (xs := [(Operand.tmp 80), (Operand.tmp 81)]) hst rfl Ten7 (cmp7 hst.fact.2.1.1 hst.fact.2.2.2) rfl ?_)
    clear hst; rintro a _ w U ⟨bb5, rfl, hbb5⟩ hst
    refine ⟨hst.kept (.cons_cons _ (.cons _ (.cons_cons _ (.cons _ (.cons_cons _ (.cons _ (.cons_cons _ (.slnil)))))))), ?_⟩
    refine f_oneg (i := 35) hst (by kernel_rfl) rfl rfl rfl rfl (r_call (xs := [(Operand.tmp 83), (Operand.tmp 84)]) hst rfl Ten8 (cmp8 hst.fact.2.1.1 hst.fact.2.2.2) rfl ?_)
    clear hst; rintro a _ w U ⟨bb6, rfl, hbb6⟩ hst
    refine ⟨hst.kept (.cons_cons _ (.cons _ (.cons_cons _ (.cons _ (.cons_cons _ (.cons _ (.cons_cons _ (.slnil)))))))), ?_⟩
    refine f_takeg (i := 36) hS hst (.cons_cons _ (.cons _ (.cons_cons _ (.cons _ (.cons_cons _ (.cons _ (.cons_cons _ (.slnil)))))))) rfl rfl rfl rfl rfl rfl (by kernel_rfl) (by kernel_rfl) (by kernel_rfl) (fun _ _ _ h => h) (fun _ _ _ _ hst => q_eqb hst rfl rfl Tu4) ?_
    clear hst; intro a hst
    rw [beq_iff hbb5 hbb6 Iff.rfl] at hst
    refine f_take (i := 37) hS hst (.cons_cons _ (.cons _ (.cons_cons _ (.cons _ (.cons_cons _ (.cons _ (.cons_cons _ (.slnil)))))))) rfl rfl rfl rfl (by kernel_rfl) (by kernel_rfl) (by kernel_rfl) (fun _ _ _ h => h) (fun _ _ _ _ hst => q_pick hst rfl rfl) ?_
    clear hst; intro a hst
    refine f_take (i := 38) hS hst (.cons_cons _ (.cons _ (.cons_cons _ (.cons _ (.cons_cons _ (.cons _ (.cons_cons _ (.slnil)))))))) rfl rfl rfl rfl (by kernel_rfl) (by kernel_rfl) (by kernel_rfl) (fun _ _ _ h => h) (fun _ _ _ _ hst => q_move hst rfl) ?_
    clear hst; intro a hst
    refine f_takeg (i := 39) hS hst (.cons_cons _ (.cons _ (.cons_cons _ (.cons _ (.cons_cons _ (.cons _ (.cons_cons _ (.slnil)))))))) rfl rfl rfl rfl rfl rfl (by kernel_rfl) (by kernel_rfl) (by kernel_rfl) (fun _ _ _ h => h) (fun _ _ _ _ hst => q_loada hst rfl Ta26 (.head _) (.cons rfl (.cons rfl (.nil))) rfl) ?_
    clear hst; intro a hst
    refine f_takeg (i := 40) hS hst (.cons_cons _ (.cons _ (.cons_cons _ (.cons _ (.cons_cons _ (.cons _ (.cons_cons _ (.slnil)))))))) rfl rfl rfl rfl rfl rfl (by kernel_rfl) (by kernel_rfl) (by kernel_rfl) (fun _ _ _ h => h) (fun _ _ _ _ hst => q_loada hst rfl Ta26 (.tail _ (.tail _ (.tail _ (.head _)))) (.cons rfl (.cons rfl (.nil))) rfl) ?_
    clear hst; intro a hst
    refine f_takeg (i := 42) hS hst (.cons_cons _ (.cons _ (.cons_cons _ (.cons _ (.cons_cons _ (.cons _ (.cons_cons _ (.slnil)))))))) rfl rfl rfl rfl rfl rfl (by kernel_rfl) (by kernel_rfl) (by kernel_rfl) (fun _ _ _ h => h) (fun _ _ _ _ hst => q_loada hst rfl Ta26 (.tail _ (.tail _ (.tail _ (.head _)))) (.cons rfl (.cons rfl (.nil))) rfl) ?_
    clear hst; intro a hst
    refine f_takeg (i := 43) hS hst (.cons_cons _ (.cons _ (.cons_cons _ (.cons _ (.cons_cons _ (.cons _ (.cons_cons _ (.slnil)))))))) rfl rfl rfl rfl rfl rfl (by kernel_rfl) (by kernel_rfl) (by kernel_rfl) (fun _ _ _ h => h) (fun _ _ _ _ hst => q_loada hst rfl Ta26 (.head _) (.cons rfl (.cons rfl (.nil))) rfl) ?_
    clear hst; intro a hst
    refine f_oneg (i := 41) hst (by kernel_rfl) rfl rfl rfl rfl (r_call (xs := [(Operand.tmp 89), (Operand.tmp 90)]) hst rfl Ten7 (cmp7 hst.fact.2.2.2 hst.fact.2.1.1) rfl ?_)
    clear hst; rintro a _ w U ⟨bb7, rfl, hbb7⟩ hst
    refine ⟨hst.kept (.cons_cons _ (.cons _ (.cons_cons _ (.cons _ (.cons_cons _ (.cons _ (.cons_cons _ (.slnil)))))))), ?_⟩
    refine f_oneg (i := 44) hst (by kernel_rfl) rfl rfl rfl rfl (r_call (xs := [(Operand.tmp 92), (Operand.tmp 93)]) hst rfl Ten8 (cmp8 hst.fact.2.1.1 hst.fact.2.2.2) rfl ?_)
    clear hst; rintro a _ w U ⟨bb8, rfl, hbb8⟩ hst
    refine ⟨hst.kept (.cons_cons _ (.cons _ (.cons_cons _ (.cons _ (.cons_cons _ (.cons _ (.cons_cons _ (.slnil)))))))), ?_⟩
    refine f_takeg (i := 45) hS hst (.cons_cons _ (.cons _ (.cons_cons _ (.cons _ (.cons_cons _ (.cons _ (.cons_cons _ (.slnil)))))))) rfl rfl rfl rfl rfl rfl (by kernel_rfl) (by kernel_rfl) (by kernel_rfl) (fun _ _ _ h => h) (fun _ _ _ _ hst => q_eqb hst rfl rfl Tu4) ?_
    clear hst; intro a hst
    rw [beq_iff hbb7 hbb8 (and_congr eq_comm eq_comm)] at hst
    refine f_take (i := 46) hS hst (.cons_cons _ (.cons _ (.cons_cons _ (.cons _ (.cons_cons _ (.cons _ (.cons_cons _ (.slnil)))))))) rfl rfl rfl rfl (by kernel_rfl) (by kernel_rfl) (by kernel_rfl) (fun _ _ _ h => h) (fun _ _ _ _ hst => q_pick hst rfl rfl) ?_
    clear hst; intro a hst
    refine f_take (i := 47) hS hst (.cons_cons _ (.cons _ (.cons_cons _ (.cons _ (.cons_cons _ (.cons _ (.cons_cons _ (.slnil)))))))) rfl rfl rfl rfl (by kernel_rfl) (by kernel_rfl) (by kernel_rfl) (fun _ _ _ h => h) (fun _ _ _ _ hst => q_assign hst rfl) ?_
    clear hst; intro a hst
    refine f_done (by kernel_rfl) ?_
    have hst := hS.back hst
    refine then_n ?_
    refine wp_ret ?_
    refine x_ret (rs := [.tmp 8]) hst rfl (.tmp rfl (.nil)) ?_
    rfl
  try simp only [n1, n2, n3, n4, n5, n6, n7, n8, n9, na, nb] at hc3
  refine f_takeg (i := 20) hS hst (.cons_cons _ (.cons _ (.cons_cons _ (.cons _ (.cons_cons _ (.cons _ (.cons_cons _ (.slnil)))))))) rfl rfl rfl rfl rfl rfl (by kernel_rfl) (by kernel_rfl) (by kernel_rfl) (fun _ _ _ h => h) (fun _ _ _ _ hst => q_loada hst rfl Ta26 (.tail _ (.tail _ (.tail _ (.head _)))) (.cons rfl (.cons rfl (.nil))) rfl) ?_
  clear hst; intro a hst
  refine f_takeg (i := 21) hS hst (.cons_cons _ (.cons _ (.cons_cons _ (.cons _ (.cons_cons _ (.cons _ (.cons_cons _ (.slnil)))))))) rfl rfl rfl rfl rfl rfl (by kernel_rfl) (by kernel_rfl) (by kernel_rfl) (fun _ _ _ h => h) (fun _ _ _ _ hst => q_loada hst rfl Ta26 (.tail _ (.head _)) (.cons rfl (.cons rfl (.nil))) rfl) ?_
  clear hst; intro a hst
  refine f_takeg (i := 23) hS hst (.cons_cons _ (.cons _ (.cons_cons _ (.cons _ (.cons_cons _ (.cons _ (.cons_cons _ (.slnil)))))))) rfl rfl rfl rfl rfl rfl (by kernel_rfl) (by kernel_rfl) (by kernel_rfl) (fun _ _ _ h => h) (fun _ _ _ _ hst => q_loada hst rfl Ta26 (.tail _ (.tail _ (.tail _ (.head _)))) (.cons rfl (.cons rfl (.nil))) rfl) ?_
  clear hst; intro a hst
  refine f_takeg (i := 24) hS hst (.cons_cons _ (.cons _ (.cons_cons _ (.cons _ (.cons_cons _ (.cons _ (.cons_cons _ (.slnil)))))))) rfl rfl rfl rfl rfl rfl (by kernel_rfl) (by kernel_rfl) (by kernel_rfl) (fun _ _ _ h => h) (fun _ _ _ _ hst => q_loada hst rfl Ta26 (.tail _ (.head _)) (.cons rfl (.cons rfl (.nil))) rfl) ?_
  clear hst; intro a hst
  refine f_oneg (i := 22) hst (by kernel_rfl) rfl rfl rfl rfl (r_call (xs := [(Operand.tmp 70), (Operand.tmp 71)]) hst rfl Ten7 (cmp7 hst.fact.2.1.1 hst.fact.2.2.1) rfl ?_)
  clear hst; rintro a _ w U ⟨bb9, rfl, hbb9⟩ hst
  refine ⟨hst.kept (.cons_cons _ (.cons _ (.cons_cons _ (.cons _ (.cons_cons _ (.cons _ (.cons_cons _ (.slnil)))))))), ?_⟩
  refine f_oneg (i := 25) hst (by kernel_rfl) rfl rfl rfl rfl (r_call (xs := [(Operand.tmp 73), (Operand.tmp 74)]) hst rfl Ten8 (cmp8 hst.fact.2.1.1 hst.fact.2.2.1) rfl ?_)
  clear hst; rintro a _ w U ⟨bb10, rfl, hbb10⟩ hst
  refine ⟨hst.kept (.cons_cons _ (.cons _ (.cons_cons _ (.cons _ (.cons_cons _ (.cons _ (.cons_cons _ (.slnil)))))))), ?_⟩
  refine f_takeg (i := 26) hS hst (.cons_cons _ (.cons _ (.cons_cons _ (.cons _ (.cons_cons _ (.cons _ (.cons_cons _ (.slnil)))))))) rfl rfl rfl rfl rfl rfl (by kernel_rfl) (by kernel_rfl) (by kernel_rfl) (fun _ _ _ h => h) (fun _ _ _ _ hst => q_eqb hst rfl rfl Tu4) ?_
  clear hst; intro a hst
  rw [beq_iff hbb9 hbb10 Iff.rfl] at hst
  refine f_takeg (i := 27) hS hst (.cons_cons _ (.cons _ (.cons_cons _ (.cons _ (.cons_cons _ (.cons _ (.cons_cons _ (.slnil)))))))) rfl rfl rfl rfl rfl rfl (by kernel_rfl) (by kernel_rfl) (by kernel_rfl) (fun _ _ _ h => h) (fun _ _ _ _ hst => q_pick hst rfl rfl) ?_
  clear hst; intro a hst
  refine f_take (i := 28) hS hst (.cons_cons _ (.cons _ (.cons_cons _ (.cons _ (.cons_cons _ (.cons _ (.cons_cons _ (.slnil)))))))) rfl rfl rfl rfl (by kernel_rfl) (by kernel_rfl) (by kernel_rfl) (fun _ _ _ h => h) (fun _ _ _ _ hst => q_pick hst rfl rfl) ?_
  clear hst; intro a hst
  refine f_take (i := 29) hS hst (.cons_cons _ (.cons _ (.cons_cons _ (.cons _ (.cons_cons _ (.cons _ (.cons_cons _ (.slnil)))))))) rfl rfl rfl rfl (by kernel_rfl) (by kernel_rfl) (by kernel_rfl) (fun _ _ _ h => h) (fun _ _ _ _ hst => q_move hst rfl) ?_
  clear hst; intro a hst
  refine f_takeg (i := 30) hS hst (.cons_cons _ (.cons _ (.cons_cons _ (.cons _ (.cons_cons _ (.cons _ (.cons_cons _ (.slnil)))))))) rfl rfl rfl rfl rfl rfl (by kernel_rfl) (by kernel_rfl) (by kernel_rfl) (fun _ _ _ h => h) (fun _ _ _ _ hst => q_loada hst rfl Ta26 (.tail _ (.tail _ (.tail _ (.head _)))) (.cons rfl (.cons rfl (.nil))) rfl) ?_
  clear hst; intro a hst
  refine f_takeg (i := 31) hS hst (.cons_cons _ (.cons _ (.cons_cons _ (.cons _ (.cons_cons _ (.cons _ (.cons_cons _ (.slnil)))))))) rfl rfl rfl rfl rfl rfl (by kernel_rfl) (by kernel_rfl) (by kernel_rfl) (fun _ _ _ h => h) (fun _ _ _ _ hst => q_loada hst rfl Ta26 (.head _) (.cons rfl (.cons rfl (.nil))) rfl) ?_
  clear hst; intro a hst
  refine f_takeg (i := 33) hS hst (.cons_cons _ (.cons _ (.cons_cons _ (.cons _ (.cons_cons _ (.cons _ (.cons_cons _ (.slnil)))))))) rfl rfl rfl rfl rfl rfl (by kernel_rfl) (by kernel_rfl) (by kernel_rfl) (fun _ _ _ h => h) (fun _ _ _ _ hst => q_loada hst rfl Ta26 (.tail _ (.tail _ (.tail _ (.head _)))) (.cons rfl (.cons rfl (.nil))) rfl) ?_
  clear hst; intro a hst
  refine f_takeg (i := 34) hS hst (.cons_cons _ (.cons _ (.cons_cons _ (.cons _ (.cons_cons _ (.cons _ (.cons_cons _ (.slnil)))))))) rfl rfl rfl rfl rfl rfl (by kernel_rfl) (by kernel_rfl) (by kernel_rfl) (fun _ _ _ h => h) (fun _ _ _ _ hst => q_loada hst rfl Ta26 (.head _) (.cons rfl (.cons rfl (.nil))) rfl) ?_
  clear hst; intro a hst
  refine f_oneg (i := 32) hst (by kernel_rfl) rfl rfl rfl rfl (r_call (xs := [(Operand.tmp 80), (Operand.tmp 81)]) hst rfl Ten7 (cmp7 hst.fact.2.1.1 hst.fact.2.2.2) rfl ?_)
  clear hst; rintro a _ w U ⟨bb11, rfl, hbb11⟩ hst
  refine ⟨hst.kept (.cons_cons _ (.cons _ (.cons_cons _ (.cons _ (.cons_cons _ (.cons _ (.cons_cons _ (.slnil)))))))), ?_⟩
  refine f_oneg (i := 35) hst (by kernel_rfl) rfl rfl rfl rfl (r_call (xs := [(Operand.tmp 83), (Operand.tmp 84)]) hst rfl Ten8 (cmp8 hst.fact.2.1.1 hst.fact.2.2.2) rfl ?_)
  clear hst; rintro a _ w U ⟨bb12, rfl, hbb12⟩ hst
  refine ⟨hst.kept (.cons_cons _ (.cons _ (.cons_cons _ (.cons _ (.cons_cons _ (.cons _ (.cons_cons _ (.slnil)))))))), ?_⟩
  refine f_takeg (i := 36) hS hst (.cons_cons _ (.cons _ (.cons_cons _ (.cons _ (.cons_cons _ (.cons _ (.cons_cons _ (.slnil)))))))) rfl rfl rfl rfl rfl rfl (by kernel_rfl) (by kernel_rfl) (by kernel_rfl) (fun _ _ _ h => h) (fun _ _ _ _ hst => q_eqb hst rfl rfl Tu4) ?_
  clear hst; intro a hst
  rw [beq_iff hbb11 hbb12 Iff.rfl] at hst
  refine f_take (i := 37) hS hst (.cons_cons _ (.cons _ (.cons_cons _ (.cons _ (.cons_cons _ (.cons _ (.cons_cons _ (.slnil)))))))) rfl rfl rfl rfl (by kernel_rfl) (by kernel_rfl) (by kernel_rfl) (fun _ _ _ h => h) (fun _ _ _ _ hst => q_pick hst rfl rfl) ?_
  clear hst; intro a hst
  refine f_take (i := 38) hS hst (.cons_cons _ (.cons _ (.cons_cons _ (.cons _ (.cons_cons _ (.cons _ (.cons_cons _ (.slnil)))))))) rfl rfl rfl rfl (by kernel_rfl) (by kernel_rfl) (by kernel_rfl) (fun _ _ _ h => h) (fun _ _ _ _ hst => q_move hst rfl) ?_
  clear hst; intro a hst
  refine f_takeg (i := 39) hS hst (.cons_cons _ (.cons _ (.cons_cons _ (.cons _ (.cons_cons _ (.cons _ (.cons_cons _ (.slnil)))))))) rfl rfl rfl rfl rfl rfl (by kernel_rfl) (by kernel_rfl) (by kernel_rfl) (fun _ _ _ h => h) (fun _ _ _ _ hst => q_loada hst rfl Ta26 (.head _) (.cons rfl (.cons rfl (.nil))) rfl) ?_
  clear hst; intro a hst
  refine f_takeg (i := 40) hS hst (.cons_cons _ (.cons _ (.cons_cons _ (.cons _ (.cons_cons _ (.cons _ (.cons_cons _ (.slnil)))))))) rfl rfl rfl rfl rfl rfl (by kernel_rfl) (by kernel_rfl) (by kernel_rfl) (fun _ _ _ h => h) (fun _ _ _ _ hst => q_loada hst rfl Ta26 (.tail _ (.tail _ (.tail _ (.head _)))) (.cons rfl (.cons rfl (.nil))) rfl) ?_
  clear hst; intro a hst
  refine f_takeg (i := 42) hS hst (.cons_cons _ (.cons _ (.cons_cons _ (.cons _ (.cons_cons _ (.cons _ (.cons_cons _ (.slnil)))))))) rfl rfl rfl rfl rfl rfl (by kernel_rfl) (by kernel_rfl) (by kernel_rfl) (fun _ _ _ h => h) (fun _ _ _ _ hst => q_loada hst rfl Ta26 (.tail _ (.tail _ (.tail _ (.head _)))) (.cons rfl (.cons rfl (.nil))) rfl) ?_
  clear hst; intro a hst
  refine f_takeg (i := 43) hS hst (.cons_cons _ (.cons _ (.cons_cons _ (.cons _ (.cons_cons _ (.cons _ (.cons_cons _ (.slnil)))))))) rfl rfl rfl rfl rfl rfl (by kernel_rfl) (by kernel_rfl) (by kernel_rfl) (fun _ _ _ h => h) (fun _ _ _ _ hst => q_loada hst rfl Ta26 (.head _) (.cons rfl (.cons rfl (.nil))) rfl) ?_
  clear hst; intro a hst
  refine f_oneg (i := 41) hst (by kernel_rfl) rfl rfl rfl rfl (r_call (xs := [(Operand.tmp 89), (Operand.tmp 90)]) hst rfl Ten7 (cmp7 hst.fact.2.2.2 hst.fact.2.1.1) rfl ?_)
  clear hst; rintro a _ w U ⟨bb13, rfl, hbb13⟩ hst
  refine ⟨hst.kept (.cons_cons _ (.cons _ (.cons_cons _ (.cons _ (.cons_cons _ (.cons _ (.cons_cons _ (.slnil)))))))), ?_⟩
  refine f_oneg (i := 44) hst (by kernel_rfl) rfl rfl rfl rfl (r_call (xs := [(Operand.tmp 92), (Operand.tmp 93)]) hst rfl Ten8 (cmp8 hst.fact.2.1.1 hst.fact.2.2.2) rfl ?_)
  clear hst; rintro a _ w U ⟨bb14, rfl, hbb14⟩ hst
  refine ⟨hst.kept (.cons_cons _ (.cons _ (.cons_cons _ (.cons _ (.cons_cons _ (.cons _ (.cons_cons _ (.slnil)))))))), ?_⟩
  refine f_takeg (i := 45) hS hst (.cons_cons _ (.cons _ (.cons_cons _ (.cons _ (.cons_cons _ (.cons _ (.cons_cons _ (.slnil)))))))) rfl rfl rfl rfl rfl rfl (by kernel_rfl) (by kernel_rfl) (by kernel_rfl) (fun _ _ _ h => h) (fun _ _ _ _ hst => q_eqb hst rfl rfl Tu4) ?_
  clear hst; intro a hst
  rw [beq_iff hbb13 hbb14 (and_congr eq_comm eq_comm)] at hst
  refine f_take (i := 46) hS hst (.cons_cons _ (.cons _ (.cons_cons _ (.cons _ (.cons_cons _ (.cons _ (.cons_cons _ (.slnil)))))))) rfl rfl rfl rfl (by kernel_rfl) (by kernel_rfl) (by kernel_rfl) (fun _ _ _ h => h) (fun _ _ _ _ hst => q_pick hst rfl rfl) ?_
  clear hst; intro a hst
  refine f_take (i := 47) hS hst (.cons_cons _ (.cons _ (.cons_cons _ (.cons _ (.cons_cons _ (.cons _ (.cons_cons _ (.slnil)))))))) rfl rfl rfl rfl (by kernel_rfl) (by kernel_rfl) (by kernel_rfl) (fun _ _ _ h => h) (fun _ _ _ _ hst => q_assign hst rfl) ?_
  clear hst; intro a hst
  refine f_done (by kernel_rfl) ?_
  have hst := hS.back hst
  refine then_n ?_
  refine wp_ret ?_
  refine x_ret (rs := [.tmp 8]) hst rfl (.tmp rfl (.nil)) ?_
  rfl
end Go.Proofs.YtjnjkbmegfkiiaaGreat
