/- The program's own scanner: texts. -/
import Derived.Test.YtjnjkbmegfkiiaaGreatT
import Derived.Test.YtjnjkbmegfkiiaaGreatX11
namespace Go.Proofs.YtjnjkbmegfkiiaaGreat
open Go.RowKit
set_option maxRecDepth 10000
set_option linter.unusedVariables false
set_option linter.unusedSimpArgs false
attribute [local irreducible] Oper.wp Code.wp wpList wpAny wpOp Calls CallsS
def CutCls (w0 : World) (U0 : Mk) (z : Int) (a : Act) (w : World) : Prop :=
  ∃ U, Sta w0 U0 40 [(0, .int .u8 z)] [] [] (fun _ _ => True) a w U ∧ ¬ (97 ≤ z ∧ z ≤ 122) ∧ ¬ (65 ≤ z ∧ z ≤ 90) ∧ ¬ (48 ≤ z ∧ z ≤ 57)

theorem cls_c {w0 : World} {U0 : Mk} (z : Int) :
    CallsS Tryz.prog 65 [.int .u8 z] w0 U0 (fun v _ _ => ∃ k : Int, v = .int .i64 k ∧ (0 ≤ k ∧ k ≤ 6) ∧ (k = 1 ↔ (97 ≤ z ∧ z ≤ 122)) ∧ (k = 2 ↔ (65 ≤ z ∧ z ≤ 90)) ∧ (k = 3 ↔ (48 ≤ z ∧ z ≤ 57)) ∧ (k = 4 ↔ z = 32) ∧ (k = 5 ↔ z = 10)) := by
  refine x_enter (F := fun _ _ => True) (n := 40) Tryz.func65 rfl rfl (by simp) (.cons (d := 0) rfl (.nil)) (Mono.true_) (trivial) ?_
  intro a hst
  refine wp_seq ?_
  refine wp_region_lit ?_
  refine l_op rfl (r_assign hst rfl rfl ?_)
  clear hst; intro a hst
  refine wpList_nil ?_
  refine then_n ?_
  refine wp_seq ?_
  refine x_cut2 (CutCls w0 U0 z) (fun a w hM => ?_) ?_
  · clear hst
    obtain ⟨U, hst, hz1, hz2, hz3⟩ := hM
    refine then_n ?_
    refine wp_seq ?_
    refine wp_seq ?_
    refine wp_region_lit ?_
    refine l_op rfl (r_move hst rfl rfl ?_)
    clear hst; intro a hst
    refine wpList_nil ?_
    refine then_n ?_
    refine wp_block ?_
    refine wp_seq ?_
    refine wp_region_lit ?_
    refine l_op rfl (r_bin hst rfl rfl rfl rfl rfl ?_)
    clear hst; intro a hst
    refine l_op rfl (r_assign hst rfl rfl ?_)
    clear hst; intro a hst
    refine wpList_nil ?_
    refine then_n ?_
    refine x_cond hst rfl (fun hc1 => ?_) (fun hc1 => ?_)
    · try simp only [n1, n2, n3, n4, n5, n6, n7, n8, n9, na, nb] at hc1
      refine wp_seq ?_
      refine wp_region_lit ?_
      refine l_op rfl (r_assign hst rfl rfl ?_)
      clear hst; intro a hst
      refine wpList_nil ?_
      refine then_n ?_
      refine wp_ret ?_
      refine inb_r ?_
      refine then_r ?_
      refine x_ret (rs := [.tmp 2]) hst rfl (.tmp rfl (.nil)) ?_
      exact ⟨_, rfl, by omega, by omega, by omega, by omega, by omega, by omega⟩
    try simp only [n1, n2, n3, n4, n5, n6, n7, n8, n9, na, nb] at hc1
    refine wp_seq ?_
    refine wp_region_lit ?_
    refine l_op rfl (r_bin hst rfl rfl rfl rfl rfl ?_)
    clear hst; intro a hst
    refine l_op rfl (r_assign hst rfl rfl ?_)
    clear hst; intro a hst
    refine wpList_nil ?_
    refine then_n ?_
    refine x_cond hst rfl (fun hc2 => ?_) (fun hc2 => ?_)
    · try simp only [n1, n2, n3, n4, n5, n6, n7, n8, n9, na, nb] at hc2
      refine wp_seq ?_
      refine wp_region_lit ?_
      refine l_op rfl (r_assign hst rfl rfl ?_)
      clear hst; intro a hst
      refine wpList_nil ?_
      refine then_n ?_
      refine wp_ret ?_
      refine inb_r ?_
      refine then_r ?_
      refine x_ret (rs := [.tmp 2]) hst rfl (.tmp rfl (.nil)) ?_
      exact ⟨_, rfl, by omega, by omega, by omega, by omega, by omega, by omega⟩
    try simp only [n1, n2, n3, n4, n5, n6, n7, n8, n9, na, nb] at hc2
    refine wp_seq ?_
    refine wp_seq ?_
    refine wp_region_lit ?_
    refine l_op rfl (r_bin hst rfl rfl rfl rfl rfl ?_)
    clear hst; intro a hst
    refine l_op rfl (r_assign hst rfl rfl ?_)
    clear hst; intro a hst
    refine wpList_nil ?_
    refine then_n ?_
    refine x_cond hst rfl (fun hc3 => ?_) (fun hc3 => ?_)
    · try simp only [n1, n2, n3, n4, n5, n6, n7, n8, n9, na, nb] at hc3
      refine wp_skip ?_
      refine then_n ?_
      refine x_cond hst rfl (fun hc4 => ?_) (fun hc4 => ?_)
      · try simp only [n1, n2, n3, n4, n5, n6, n7, n8, n9, na, nb] at hc4
        refine wp_seq ?_
        refine wp_region_lit ?_
        refine l_op rfl (r_assign hst rfl rfl ?_)
        clear hst; intro a hst
        refine wpList_nil ?_
        refine then_n ?_
        refine wp_ret ?_
        refine inb_r ?_
        refine then_r ?_
        refine x_ret (rs := [.tmp 2]) hst rfl (.tmp rfl (.nil)) ?_
        exact ⟨_, rfl, by omega, by omega, by omega, by omega, by omega, by omega⟩
      try simp only [n1, n2, n3, n4, n5, n6, n7, n8, n9, na, nb] at hc4
      refine wp_skip ?_
      refine inb_n ?_
      refine then_n ?_
      refine wp_seq ?_
      refine wp_region_lit ?_
      refine l_op rfl (r_assign hst rfl rfl ?_)
      clear hst; intro a hst
      refine wpList_nil ?_
      refine then_n ?_
      refine wp_ret ?_
      refine x_ret (rs := [.tmp 2]) hst rfl (.tmp rfl (.nil)) ?_
      exact ⟨_, rfl, by omega, by omega, by omega, by omega, by omega, by omega⟩
    try simp only [n1, n2, n3, n4, n5, n6, n7, n8, n9, na, nb] at hc3
    refine wp_seq ?_
    refine wp_region_lit ?_
    refine l_op rfl (r_bin hst rfl rfl rfl rfl rfl ?_)
    clear hst; intro a hst
    refine l_op rfl (r_assign hst rfl rfl ?_)
    clear hst; intro a hst
    refine wpList_nil ?_
    refine then_n ?_
    refine x_cond hst rfl (fun hc5 => ?_) (fun hc5 => ?_)
    · try simp only [n1, n2, n3, n4, n5, n6, n7, n8, n9, na, nb] at hc5
      refine wp_skip ?_
      refine then_n ?_
      refine x_cond hst rfl (fun hc6 => ?_) (fun hc6 => ?_)
      · try simp only [n1, n2, n3, n4, n5, n6, n7, n8, n9, na, nb] at hc6
        refine wp_seq ?_
        refine wp_region_lit ?_
        refine l_op rfl (r_assign hst rfl rfl ?_)
        clear hst; intro a hst
        refine wpList_nil ?_
        refine then_n ?_
        refine wp_ret ?_
        refine inb_r ?_
        refine then_r ?_
        refine x_ret (rs := [.tmp 2]) hst rfl (.tmp rfl (.nil)) ?_
        exact ⟨_, rfl, by omega, by omega, by omega, by omega, by omega, by omega⟩
      try simp only [n1, n2, n3, n4, n5, n6, n7, n8, n9, na, nb] at hc6
      refine wp_skip ?_
      refine inb_n ?_
      refine then_n ?_
      refine wp_seq ?_
      refine wp_region_lit ?_
      refine l_op rfl (r_assign hst rfl rfl ?_)
      clear hst; intro a hst
      refine wpList_nil ?_
      refine then_n ?_
      refine wp_ret ?_
      refine x_ret (rs := [.tmp 2]) hst rfl (.tmp rfl (.nil)) ?_
      exact ⟨_, rfl, by omega, by omega, by omega, by omega, by omega, by omega⟩
    try simp only [n1, n2, n3, n4, n5, n6, n7, n8, n9, na, nb] at hc5
    refine wp_seq ?_
    refine wp_region_lit ?_
    refine l_op rfl (r_bin hst rfl rfl rfl rfl rfl ?_)
    clear hst; intro a hst
    refine l_op rfl (r_assign hst rfl rfl ?_)
    clear hst; intro a hst
    refine wpList_nil ?_
    refine then_n ?_
    refine x_cond hst rfl (fun hc7 => ?_) (fun hc7 => ?_)
    · try simp only [n1, n2, n3, n4, n5, n6, n7, n8, n9, na, nb] at hc7
      refine wp_skip ?_
      refine then_n ?_
      refine x_cond hst rfl (fun hc8 => ?_) (fun hc8 => ?_)
      · try simp only [n1, n2, n3, n4, n5, n6, n7, n8, n9, na, nb] at hc8
        refine wp_seq ?_
        refine wp_region_lit ?_
        refine l_op rfl (r_assign hst rfl rfl ?_)
        clear hst; intro a hst
        refine wpList_nil ?_
        refine then_n ?_
        refine wp_ret ?_
        refine inb_r ?_
        refine then_r ?_
        refine x_ret (rs := [.tmp 2]) hst rfl (.tmp rfl (.nil)) ?_
        exact ⟨_, rfl, by omega, by omega, by omega, by omega, by omega, by omega⟩
      try simp only [n1, n2, n3, n4, n5, n6, n7, n8, n9, na, nb] at hc8
      refine wp_skip ?_
      refine inb_n ?_
      refine then_n ?_
      refine wp_seq ?_
      refine wp_region_lit ?_
      refine l_op rfl (r_assign hst rfl rfl ?_)
      clear hst; intro a hst
      refine wpList_nil ?_
      refine then_n ?_
      refine wp_ret ?_
      refine x_ret (rs := [.tmp 2]) hst rfl (.tmp rfl (.nil)) ?_
      exact ⟨_, rfl, by omega, by omega, by omega, by omega, by omega, by omega⟩
    try simp only [n1, n2, n3, n4, n5, n6, n7, n8, n9, na, nb] at hc7
    refine wp_seq ?_
    refine wp_region_lit ?_
    refine l_op rfl (r_bin hst rfl rfl rfl rfl rfl ?_)
    clear hst; intro a hst
    refine l_op rfl (r_assign hst rfl rfl ?_)
    clear hst; intro a hst
    refine wpList_nil ?_
    refine then_n ?_
    refine x_cond hst rfl (fun hc9 => ?_) (fun hc9 => ?_)
    · try simp only [n1, n2, n3, n4, n5, n6, n7, n8, n9, na, nb] at hc9
      refine wp_skip ?_
      refine then_n ?_
      refine x_cond hst rfl (fun hc10 => ?_) (fun hc10 => ?_)
      · try simp only [n1, n2, n3, n4, n5, n6, n7, n8, n9, na, nb] at hc10
        refine wp_seq ?_
        refine wp_region_lit ?_
        refine l_op rfl (r_assign hst rfl rfl ?_)
        clear hst; intro a hst
        refine wpList_nil ?_
        refine then_n ?_
        refine wp_ret ?_
        refine inb_r ?_
        refine then_r ?_
        refine x_ret (rs := [.tmp 2]) hst rfl (.tmp rfl (.nil)) ?_
        exact ⟨_, rfl, by omega, by omega, by omega, by omega, by omega, by omega⟩
      try simp only [n1, n2, n3, n4, n5, n6, n7, n8, n9, na, nb] at hc10
      refine wp_skip ?_
      refine inb_n ?_
      refine then_n ?_
      refine wp_seq ?_
      refine wp_region_lit ?_
      refine l_op rfl (r_assign hst rfl rfl ?_)
      clear hst; intro a hst
      refine wpList_nil ?_
      refine then_n ?_
      refine wp_ret ?_
      refine x_ret (rs := [.tmp 2]) hst rfl (.tmp rfl (.nil)) ?_
      exact ⟨_, rfl, by omega, by omega, by omega, by omega, by omega, by omega⟩
    try simp only [n1, n2, n3, n4, n5, n6, n7, n8, n9, na, nb] at hc9
    refine wp_seq ?_
    refine wp_region_lit ?_
    refine l_op rfl (r_bin hst rfl rfl rfl rfl rfl ?_)
    clear hst; intro a hst
    refine l_op rfl (r_assign hst rfl rfl ?_)
    clear hst; intro a hst
    refine wpList_nil ?_
    refine then_n ?_
    refine x_cond hst rfl (fun hc11 => ?_) (fun hc11 => ?_)
    · try simp only [n1, n2, n3, n4, n5, n6, n7, n8, n9, na, nb] at hc11
      refine wp_skip ?_
      refine then_n ?_
      refine x_cond hst rfl (fun hc12 => ?_) (fun hc12 => ?_)
      · try simp only [n1, n2, n3, n4, n5, n6, n7, n8, n9, na, nb] at hc12
        refine wp_seq ?_
        refine wp_region_lit ?_
        refine l_op rfl (r_assign hst rfl rfl ?_)
        clear hst; intro a hst
        refine wpList_nil ?_
        refine then_n ?_
        refine wp_ret ?_
        refine inb_r ?_
        refine then_r ?_
        refine x_ret (rs := [.tmp 2]) hst rfl (.tmp rfl (.nil)) ?_
        exact ⟨_, rfl, by omega, by omega, by omega, by omega, by omega, by omega⟩
      try simp only [n1, n2, n3, n4, n5, n6, n7, n8, n9, na, nb] at hc12
      refine wp_skip ?_
      refine inb_n ?_
      refine then_n ?_
      refine wp_seq ?_
      refine wp_region_lit ?_
      refine l_op rfl (r_assign hst rfl rfl ?_)
      clear hst; intro a hst
      refine wpList_nil ?_
      refine then_n ?_
      refine wp_ret ?_
      refine x_ret (rs := [.tmp 2]) hst rfl (.tmp rfl (.nil)) ?_
      exact ⟨_, rfl, by omega, by omega, by omega, by omega, by omega, by omega⟩
    try simp only [n1, n2, n3, n4, n5, n6, n7, n8, n9, na, nb] at hc11
    refine wp_seq ?_
    refine wp_region_lit ?_
    refine l_op rfl (r_bin hst rfl rfl rfl rfl rfl ?_)
    clear hst; intro a hst
    refine l_op rfl (r_assign hst rfl rfl ?_)
    clear hst; intro a hst
    refine wpList_nil ?_
    refine then_n ?_
    refine x_cond hst rfl (fun hc13 => ?_) (fun hc13 => ?_)
    · try simp only [n1, n2, n3, n4, n5, n6, n7, n8, n9, na, nb] at hc13
      refine wp_skip ?_
      refine then_n ?_
      refine x_cond hst rfl (fun hc14 => ?_) (fun hc14 => ?_)
      · try simp only [n1, n2, n3, n4, n5, n6, n7, n8, n9, na, nb] at hc14
        refine wp_seq ?_
        refine wp_region_lit ?_
        refine l_op rfl (r_assign hst rfl rfl ?_)
        clear hst; intro a hst
        refine wpList_nil ?_
        refine then_n ?_
        refine wp_ret ?_
        refine inb_r ?_
        refine then_r ?_
        refine x_ret (rs := [.tmp 2]) hst rfl (.tmp rfl (.nil)) ?_
        exact ⟨_, rfl, by omega, by omega, by omega, by omega, by omega, by omega⟩
      try simp only [n1, n2, n3, n4, n5, n6, n7, n8, n9, na, nb] at hc14
      refine wp_skip ?_
      refine inb_n ?_
      refine then_n ?_
      refine wp_seq ?_
      refine wp_region_lit ?_
      refine l_op rfl (r_assign hst rfl rfl ?_)
      clear hst; intro a hst
      refine wpList_nil ?_
      refine then_n ?_
      refine wp_ret ?_
      refine x_ret (rs := [.tmp 2]) hst rfl (.tmp rfl (.nil)) ?_
      exact ⟨_, rfl, by omega, by omega, by omega, by omega, by omega, by omega⟩
    try simp only [n1, n2, n3, n4, n5, n6, n7, n8, n9, na, nb] at hc13
    refine wp_seq ?_
    refine wp_region_lit ?_
    refine l_op rfl (r_bin hst rfl rfl rfl rfl rfl ?_)
    clear hst; intro a hst
    refine l_op rfl (r_assign hst rfl rfl ?_)
    clear hst; intro a hst
    refine wpList_nil ?_
    refine then_n ?_
    refine x_cond hst rfl (fun hc15 => ?_) (fun hc15 => ?_)
    · try simp only [n1, n2, n3, n4, n5, n6, n7, n8, n9, na, nb] at hc15
      refine wp_skip ?_
      refine then_n ?_
      refine x_cond hst rfl (fun hc16 => ?_) (fun hc16 => ?_)
      · try simp only [n1, n2, n3, n4, n5, n6, n7, n8, n9, na, nb] at hc16
        refine wp_seq ?_
        refine wp_region_lit ?_
        refine l_op rfl (r_assign hst rfl rfl ?_)
        clear hst; intro a hst
        refine wpList_nil ?_
        refine then_n ?_
        refine wp_ret ?_
        refine inb_r ?_
        refine then_r ?_
        refine x_ret (rs := [.tmp 2]) hst rfl (.tmp rfl (.nil)) ?_
        exact ⟨_, rfl, by omega, by omega, by omega, by omega, by omega, by omega⟩
      try simp only [n1, n2, n3, n4, n5, n6, n7, n8, n9, na, nb] at hc16
      refine wp_skip ?_
      refine inb_n ?_
      refine then_n ?_
      refine wp_seq ?_
      refine wp_region_lit ?_
      refine l_op rfl (r_assign hst rfl rfl ?_)
      clear hst; intro a hst
      refine wpList_nil ?_
      refine then_n ?_
      refine wp_ret ?_
      refine x_ret (rs := [.tmp 2]) hst rfl (.tmp rfl (.nil)) ?_
      exact ⟨_, rfl, by omega, by omega, by omega, by omega, by omega, by omega⟩
    try simp only [n1, n2, n3, n4, n5, n6, n7, n8, n9, na, nb] at hc15
    refine wp_seq ?_
    refine wp_region_lit ?_
    refine l_op rfl (r_bin hst rfl rfl rfl rfl rfl ?_)
    clear hst; intro a hst
    refine l_op rfl (r_assign hst rfl rfl ?_)
    clear hst; intro a hst
    refine wpList_nil ?_
    refine then_n ?_
    refine x_cond hst rfl (fun hc17 => ?_) (fun hc17 => ?_)
    · try simp only [n1, n2, n3, n4, n5, n6, n7, n8, n9, na, nb] at hc17
      refine wp_skip ?_
      refine then_n ?_
      refine x_cond hst rfl (fun hc18 => ?_) (fun hc18 => ?_)
      · try simp only [n1, n2, n3, n4, n5, n6, n7, n8, n9, na, nb] at hc18
        refine wp_seq ?_
        refine wp_region_lit ?_
        refine l_op rfl (r_assign hst rfl rfl ?_)
        clear hst; intro a hst
        refine wpList_nil ?_
        refine then_n ?_
        refine wp_ret ?_
        refine inb_r ?_
        refine then_r ?_
        refine x_ret (rs := [.tmp 2]) hst rfl (.tmp rfl (.nil)) ?_
        exact ⟨_, rfl, by omega, by omega, by omega, by omega, by omega, by omega⟩
      try simp only [n1, n2, n3, n4, n5, n6, n7, n8, n9, na, nb] at hc18
      refine wp_skip ?_
      refine inb_n ?_
      refine then_n ?_
      refine wp_seq ?_
      refine wp_region_lit ?_
      refine l_op rfl (r_assign hst rfl rfl ?_)
      clear hst; intro a hst
      refine wpList_nil ?_
      refine then_n ?_
      refine wp_ret ?_
      refine x_ret (rs := [.tmp 2]) hst rfl (.tmp rfl (.nil)) ?_
      exact ⟨_, rfl, by omega, by omega, by omega, by omega, by omega, by omega⟩
    try simp only [n1, n2, n3, n4, n5, n6, n7, n8, n9, na, nb] at hc17
    refine wp_seq ?_
    refine wp_region_lit ?_
    refine l_op rfl (r_bin hst rfl rfl rfl rfl rfl ?_)
    clear hst; intro a hst
    refine l_op rfl (r_assign hst rfl rfl ?_)
    clear hst; intro a hst
    refine wpList_nil ?_
    refine then_n ?_
    refine x_cond hst rfl (fun hc19 => ?_) (fun hc19 => ?_)
    · try simp only [n1, n2, n3, n4, n5, n6, n7, n8, n9, na, nb] at hc19
      refine wp_skip ?_
      refine then_n ?_
      refine x_cond hst rfl (fun hc20 => ?_) (fun hc20 => ?_)
      · try simp only [n1, n2, n3, n4, n5, n6, n7, n8, n9, na, nb] at hc20
        refine wp_seq ?_
        refine wp_region_lit ?_
        refine l_op rfl (r_assign hst rfl rfl ?_)
        clear hst; intro a hst
        refine wpList_nil ?_
        refine then_n ?_
        refine wp_ret ?_
        refine inb_r ?_
        refine then_r ?_
        refine x_ret (rs := [.tmp 2]) hst rfl (.tmp rfl (.nil)) ?_
        exact ⟨_, rfl, by omega, by omega, by omega, by omega, by omega, by omega⟩
      try simp only [n1, n2, n3, n4, n5, n6, n7, n8, n9, na, nb] at hc20
      refine wp_skip ?_
      refine inb_n ?_
      refine then_n ?_
      refine wp_seq ?_
      refine wp_region_lit ?_
      refine l_op rfl (r_assign hst rfl rfl ?_)
      clear hst; intro a hst
      refine wpList_nil ?_
      refine then_n ?_
      refine wp_ret ?_
      refine x_ret (rs := [.tmp 2]) hst rfl (.tmp rfl (.nil)) ?_
      exact ⟨_, rfl, by omega, by omega, by omega, by omega, by omega, by omega⟩
    try simp only [n1, n2, n3, n4, n5, n6, n7, n8, n9, na, nb] at hc19
    refine wp_region_lit ?_
    refine l_op rfl (r_bin hst rfl rfl rfl rfl rfl ?_)
    clear hst; intro a hst
    refine l_op rfl (r_assign hst rfl rfl ?_)
    clear hst; intro a hst
    refine wpList_nil ?_
    refine then_n ?_
    refine x_cond hst rfl (fun hc21 => ?_) (fun hc21 => ?_)
    · try simp only [n1, n2, n3, n4, n5, n6, n7, n8, n9, na, nb] at hc21
      refine wp_seq ?_
      refine wp_region_lit ?_
      refine l_op rfl (r_assign hst rfl rfl ?_)
      clear hst; intro a hst
      refine wpList_nil ?_
      refine then_n ?_
      refine wp_ret ?_
      refine inb_r ?_
      refine then_r ?_
      refine x_ret (rs := [.tmp 2]) hst rfl (.tmp rfl (.nil)) ?_
      exact ⟨_, rfl, by omega, by omega, by omega, by omega, by omega, by omega⟩
    try simp only [n1, n2, n3, n4, n5, n6, n7, n8, n9, na, nb] at hc21
    refine wp_skip ?_
    refine inb_n ?_
    refine then_n ?_
    refine wp_seq ?_
    refine wp_region_lit ?_
    refine l_op rfl (r_assign hst rfl rfl ?_)
    clear hst; intro a hst
    refine wpList_nil ?_
    refine then_n ?_
    refine wp_ret ?_
    refine x_ret (rs := [.tmp 2]) hst rfl (.tmp rfl (.nil)) ?_
    exact ⟨_, rfl, by omega, by omega, by omega, by omega, by omega, by omega⟩
  refine wp_block ?_
  refine wp_seq ?_
  refine wp_region_lit ?_
  refine l_op rfl (r_move hst rfl rfl ?_)
  clear hst; intro a hst
  refine l_op rfl (r_bin hst rfl rfl rfl rfl rfl ?_)
  clear hst; intro a hst
  refine l_op rfl (r_move hst rfl rfl ?_)
  clear hst; intro a hst
  refine hst.split (t := 6) rfl (fun hc22 hst => ?_) (fun hc22 hst => ?_)
  · try simp only [n1, n2, n3, n4, n5, n6, n7, n8, n9, na, nb] at hc22
    refine l_on hst rfl rfl rfl (r_move hst rfl rfl ?_)
    clear hst; intro a hst
    refine l_on hst rfl rfl rfl (r_bin hst rfl rfl rfl rfl rfl ?_)
    clear hst; intro a hst
    refine l_op rfl (r_pick hst rfl rfl rfl ?_)
    clear hst; intro a hst
    refine l_op rfl (r_assign hst rfl rfl ?_)
    clear hst; intro a hst
    refine wpList_nil ?_
    refine then_n ?_
    refine x_cond hst rfl (fun hc23 => ?_) (fun hc23 => ?_)
    · try simp only [n1, n2, n3, n4, n5, n6, n7, n8, n9, na, nb] at hc23
      refine wp_seq ?_
      refine wp_region_lit ?_
      refine l_op rfl (r_assign hst rfl rfl ?_)
      clear hst; intro a hst
      refine wpList_nil ?_
      refine then_n ?_
      refine wp_ret ?_
      refine inb_r ?_
      refine then_r ?_
      refine then_r ?_
      refine x_ret (rs := [.tmp 2]) hst rfl (.tmp rfl (.nil)) ?_
      exact ⟨_, rfl, by omega, by omega, by omega, by omega, by omega, by omega⟩
    try simp only [n1, n2, n3, n4, n5, n6, n7, n8, n9, na, nb] at hc23
    refine wp_seq ?_
    refine wp_region_lit ?_
    refine l_op rfl (r_move hst rfl rfl ?_)
    clear hst; intro a hst
    refine l_op rfl (r_bin hst rfl rfl rfl rfl rfl ?_)
    clear hst; intro a hst
    refine l_op rfl (r_move hst rfl rfl ?_)
    clear hst; intro a hst
    refine hst.split (t := 13) rfl (fun hc24 hst => ?_) (fun hc24 hst => ?_)
    · try simp only [n1, n2, n3, n4, n5, n6, n7, n8, n9, na, nb] at hc24
      refine l_on hst rfl rfl rfl (r_move hst rfl rfl ?_)
      clear hst; intro a hst
      refine l_on hst rfl rfl rfl (r_bin hst rfl rfl rfl rfl rfl ?_)
      clear hst; intro a hst
      refine l_op rfl (r_pick hst rfl rfl rfl ?_)
      clear hst; intro a hst
      refine l_op rfl (r_assign hst rfl rfl ?_)
      clear hst; intro a hst
      refine wpList_nil ?_
      refine then_n ?_
      refine x_cond hst rfl (fun hc25 => ?_) (fun hc25 => ?_)
      · try simp only [n1, n2, n3, n4, n5, n6, n7, n8, n9, na, nb] at hc25
        refine wp_seq ?_
        refine wp_region_lit ?_
        refine l_op rfl (r_assign hst rfl rfl ?_)
        clear hst; intro a hst
        refine wpList_nil ?_
        refine then_n ?_
        refine wp_ret ?_
        refine inb_r ?_
        refine then_r ?_
        refine then_r ?_
        refine x_ret (rs := [.tmp 2]) hst rfl (.tmp rfl (.nil)) ?_
        exact ⟨_, rfl, by omega, by omega, by omega, by omega, by omega, by omega⟩
      try simp only [n1, n2, n3, n4, n5, n6, n7, n8, n9, na, nb] at hc25
      refine wp_seq ?_
      refine wp_region_lit ?_
      refine l_op rfl (r_move hst rfl rfl ?_)
      clear hst; intro a hst
      refine l_op rfl (r_bin hst rfl rfl rfl rfl rfl ?_)
      clear hst; intro a hst
      refine l_op rfl (r_move hst rfl rfl ?_)
      clear hst; intro a hst
      refine hst.split (t := 20) rfl (fun hc26 hst => ?_) (fun hc26 hst => ?_)
      · try simp only [n1, n2, n3, n4, n5, n6, n7, n8, n9, na, nb] at hc26
        refine l_on hst rfl rfl rfl (r_move hst rfl rfl ?_)
        clear hst; intro a hst
        refine l_on hst rfl rfl rfl (r_bin hst rfl rfl rfl rfl rfl ?_)
        clear hst; intro a hst
        refine l_op rfl (r_pick hst rfl rfl rfl ?_)
        clear hst; intro a hst
        refine l_op rfl (r_assign hst rfl rfl ?_)
        clear hst; intro a hst
        refine wpList_nil ?_
        refine then_n ?_
        refine x_cond hst rfl (fun hc27 => ?_) (fun hc27 => ?_)
        · try simp only [n1, n2, n3, n4, n5, n6, n7, n8, n9, na, nb] at hc27
          refine wp_seq ?_
          refine wp_region_lit ?_
          refine l_op rfl (r_assign hst rfl rfl ?_)
          clear hst; intro a hst
          refine wpList_nil ?_
          refine then_n ?_
          refine wp_ret ?_
          refine inb_r ?_
          refine then_r ?_
          refine then_r ?_
          refine x_ret (rs := [.tmp 2]) hst rfl (.tmp rfl (.nil)) ?_
          exact ⟨_, rfl, by omega, by omega, by omega, by omega, by omega, by omega⟩
        try simp only [n1, n2, n3, n4, n5, n6, n7, n8, n9, na, nb] at hc27
        refine wp_skip ?_
        refine inb_n ?_
        exact ⟨_, (hst.keep (ds := [0]) (.cons rfl (.nil))), by omega, by omega, by omega⟩
      try simp only [n1, n2, n3, n4, n5, n6, n7, n8, n9, na, nb] at hc26
      refine l_off hst rfl rfl rfl (by decide) rfl rfl ?_
      clear hst; intro a hst
      refine l_off hst rfl rfl rfl (by decide) rfl rfl ?_
      clear hst; intro a hst
      refine l_op rfl (r_pick hst rfl rfl rfl ?_)
      clear hst; intro a hst
      refine l_op rfl (r_assign hst rfl rfl ?_)
      clear hst; intro a hst
      refine wpList_nil ?_
      refine then_n ?_
      refine x_cond_f hst rfl ?_
      refine wp_skip ?_
      refine inb_n ?_
      exact ⟨_, (hst.keep (ds := [0]) (.cons rfl (.nil))), by omega, by omega, by omega⟩
    try simp only [n1, n2, n3, n4, n5, n6, n7, n8, n9, na, nb] at hc24
    refine l_off hst rfl rfl rfl (by decide) rfl rfl ?_
    clear hst; intro a hst
    refine l_off hst rfl rfl rfl (by decide) rfl rfl ?_
    clear hst; intro a hst
    refine l_op rfl (r_pick hst rfl rfl rfl ?_)
    clear hst; intro a hst
    refine l_op rfl (r_assign hst rfl rfl ?_)
    clear hst; intro a hst
    refine wpList_nil ?_
    refine then_n ?_
    refine x_cond_f hst rfl ?_
    refine wp_seq ?_
    refine wp_region_lit ?_
    refine l_op rfl (r_move hst rfl rfl ?_)
    clear hst; intro a hst
    refine l_op rfl (r_bin hst rfl rfl rfl rfl rfl ?_)
    clear hst; intro a hst
    refine l_op rfl (r_move hst rfl rfl ?_)
    clear hst; intro a hst
    refine hst.split (t := 20) rfl (fun hc28 hst => ?_) (fun hc28 hst => ?_)
    · try simp only [n1, n2, n3, n4, n5, n6, n7, n8, n9, na, nb] at hc28
      refine l_on hst rfl rfl rfl (r_move hst rfl rfl ?_)
      clear hst; intro a hst
      refine l_on hst rfl rfl rfl (r_bin hst rfl rfl rfl rfl rfl ?_)
      clear hst; intro a hst
      refine l_op rfl (r_pick hst rfl rfl rfl ?_)
      clear hst; intro a hst
      refine l_op rfl (r_assign hst rfl rfl ?_)
      clear hst; intro a hst
      refine wpList_nil ?_
      refine then_n ?_
      refine x_cond hst rfl (fun hc29 => ?_) (fun hc29 => ?_)
      · try simp only [n1, n2, n3, n4, n5, n6, n7, n8, n9, na, nb] at hc29
        refine wp_seq ?_
        refine wp_region_lit ?_
        refine l_op rfl (r_assign hst rfl rfl ?_)
        clear hst; intro a hst
        refine wpList_nil ?_
        refine then_n ?_
        refine wp_ret ?_
        refine inb_r ?_
        refine then_r ?_
        refine then_r ?_
        refine x_ret (rs := [.tmp 2]) hst rfl (.tmp rfl (.nil)) ?_
        exact ⟨_, rfl, by omega, by omega, by omega, by omega, by omega, by omega⟩
      try simp only [n1, n2, n3, n4, n5, n6, n7, n8, n9, na, nb] at hc29
      refine wp_skip ?_
      refine inb_n ?_
      exact ⟨_, (hst.keep (ds := [0]) (.cons rfl (.nil))), by omega, by omega, by omega⟩
    try simp only [n1, n2, n3, n4, n5, n6, n7, n8, n9, na, nb] at hc28
    refine l_off hst rfl rfl rfl (by decide) rfl rfl ?_
    clear hst; intro a hst
    refine l_off hst rfl rfl rfl (by decide) rfl rfl ?_
    clear hst; intro a hst
    refine l_op rfl (r_pick hst rfl rfl rfl ?_)
    clear hst; intro a hst
    refine l_op rfl (r_assign hst rfl rfl ?_)
    clear hst; intro a hst
    refine wpList_nil ?_
    refine then_n ?_
    refine x_cond_f hst rfl ?_
    refine wp_skip ?_
    refine inb_n ?_
    exact ⟨_, (hst.keep (ds := [0]) (.cons rfl (.nil))), by omega, by omega, by omega⟩
  try simp only [n1, n2, n3, n4, n5, n6, n7, n8, n9, na, nb] at hc22
  refine l_off hst rfl rfl rfl (by decide) rfl rfl ?_
  clear hst; intro a hst
  refine l_off hst rfl rfl rfl (by decide) rfl rfl ?_
  clear hst; intro a hst
  refine l_op rfl (r_pick hst rfl rfl rfl ?_)
  clear hst; intro a hst
  refine l_op rfl (r_assign hst rfl rfl ?_)
  clear hst; intro a hst
  refine wpList_nil ?_
  refine then_n ?_
  refine x_cond_f hst rfl ?_
  refine wp_seq ?_
  refine wp_region_lit ?_
  refine l_op rfl (r_move hst rfl rfl ?_)
  clear hst; intro a hst
  refine l_op rfl (r_bin hst rfl rfl rfl rfl rfl ?_)
  clear hst; intro a hst
  refine l_op rfl (r_move hst rfl rfl ?_)
  clear hst; intro a hst
  refine hst.split (t := 13) rfl (fun hc30 hst => ?_) (fun hc30 hst => ?_)
  · try simp only [n1, n2, n3, n4, n5, n6, n7, n8, n9, na, nb] at hc30
    refine l_on hst rfl rfl rfl (r_move hst rfl rfl ?_)
    clear hst; intro a hst
    refine l_on hst rfl rfl rfl (r_bin hst rfl rfl rfl rfl rfl ?_)
    clear hst; intro a hst
    refine l_op rfl (r_pick hst rfl rfl rfl ?_)
    clear hst; intro a hst
    refine l_op rfl (r_assign hst rfl rfl ?_)
    clear hst; intro a hst
    refine wpList_nil ?_
    refine then_n ?_
    refine x_cond hst rfl (fun hc31 => ?_) (fun hc31 => ?_)
    · try simp only [n1, n2, n3, n4, n5, n6, n7, n8, n9, na, nb] at hc31
      refine wp_seq ?_
      refine wp_region_lit ?_
      refine l_op rfl (r_assign hst rfl rfl ?_)
      clear hst; intro a hst
      refine wpList_nil ?_
      refine then_n ?_
      refine wp_ret ?_
      refine inb_r ?_
      refine then_r ?_
      refine then_r ?_
      refine x_ret (rs := [.tmp 2]) hst rfl (.tmp rfl (.nil)) ?_
      exact ⟨_, rfl, by omega, by omega, by omega, by omega, by omega, by omega⟩
    try simp only [n1, n2, n3, n4, n5, n6, n7, n8, n9, na, nb] at hc31
    refine wp_seq ?_
    refine wp_region_lit ?_
    refine l_op rfl (r_move hst rfl rfl ?_)
    clear hst; intro a hst
    refine l_op rfl (r_bin hst rfl rfl rfl rfl rfl ?_)
    clear hst; intro a hst
    refine l_op rfl (r_move hst rfl rfl ?_)
    clear hst; intro a hst
    refine hst.split (t := 20) rfl (fun hc32 hst => ?_) (fun hc32 hst => ?_)
    · try simp only [n1, n2, n3, n4, n5, n6, n7, n8, n9, na, nb] at hc32
      refine l_on hst rfl rfl rfl (r_move hst rfl rfl ?_)
      clear hst; intro a hst
      refine l_on hst rfl rfl rfl (r_bin hst rfl rfl rfl rfl rfl ?_)
      clear hst; intro a hst
      refine l_op rfl (r_pick hst rfl rfl rfl ?_)
      clear hst; intro a hst
      refine l_op rfl (r_assign hst rfl rfl ?_)
      clear hst; intro a hst
      refine wpList_nil ?_
      refine then_n ?_
      refine x_cond hst rfl (fun hc33 => ?_) (fun hc33 => ?_)
      · try simp only [n1, n2, n3, n4, n5, n6, n7, n8, n9, na, nb] at hc33
        refine wp_seq ?_
        refine wp_region_lit ?_
        refine l_op rfl (r_assign hst rfl rfl ?_)
        clear hst; intro a hst
        refine wpList_nil ?_
        refine then_n ?_
        refine wp_ret ?_
        refine inb_r ?_
        refine then_r ?_
        refine then_r ?_
        refine x_ret (rs := [.tmp 2]) hst rfl (.tmp rfl (.nil)) ?_
        exact ⟨_, rfl, by omega, by omega, by omega, by omega, by omega, by omega⟩
      try simp only [n1, n2, n3, n4, n5, n6, n7, n8, n9, na, nb] at hc33
      refine wp_skip ?_
      refine inb_n ?_
      exact ⟨_, (hst.keep (ds := [0]) (.cons rfl (.nil))), by omega, by omega, by omega⟩
    try simp only [n1, n2, n3, n4, n5, n6, n7, n8, n9, na, nb] at hc32
    refine l_off hst rfl rfl rfl (by decide) rfl rfl ?_
    clear hst; intro a hst
    refine l_off hst rfl rfl rfl (by decide) rfl rfl ?_
    clear hst; intro a hst
    refine l_op rfl (r_pick hst rfl rfl rfl ?_)
    clear hst; intro a hst
    refine l_op rfl (r_assign hst rfl rfl ?_)
    clear hst; intro a hst
    refine wpList_nil ?_
    refine then_n ?_
    refine x_cond_f hst rfl ?_
    refine wp_skip ?_
    refine inb_n ?_
    exact ⟨_, (hst.keep (ds := [0]) (.cons rfl (.nil))), by omega, by omega, by omega⟩
  try simp only [n1, n2, n3, n4, n5, n6, n7, n8, n9, na, nb] at hc30
  refine l_off hst rfl rfl rfl (by decide) rfl rfl ?_
  clear hst; intro a hst
  refine l_off hst rfl rfl rfl (by decide) rfl rfl ?_
  clear hst; intro a hst
  refine l_op rfl (r_pick hst rfl rfl rfl ?_)
  clear hst; intro a hst
  refine l_op rfl (r_assign hst rfl rfl ?_)
  clear hst; intro a hst
  refine wpList_nil ?_
  refine then_n ?_
  refine x_cond_f hst rfl ?_
  refine wp_seq ?_
  refine wp_region_lit ?_
  refine l_op rfl (r_move hst rfl rfl ?_)
  clear hst; intro a hst
  refine l_op rfl (r_bin hst rfl rfl rfl rfl rfl ?_)
  clear hst; intro a hst
  refine l_op rfl (r_move hst rfl rfl ?_)
  clear hst; intro a hst
  refine hst.split (t := 20) rfl (fun hc34 hst => ?_) (fun hc34 hst => ?_)
  · try simp only [n1, n2, n3, n4, n5, n6, n7, n8, n9, na, nb] at hc34
    refine l_on hst rfl rfl rfl (r_move hst rfl rfl ?_)
    clear hst; intro a hst
    refine l_on hst rfl rfl rfl (r_bin hst rfl rfl rfl rfl rfl ?_)
    clear hst; intro a hst
    refine l_op rfl (r_pick hst rfl rfl rfl ?_)
    clear hst; intro a hst
    refine l_op rfl (r_assign hst rfl rfl ?_)
    clear hst; intro a hst
    refine wpList_nil ?_
    refine then_n ?_
    refine x_cond hst rfl (fun hc35 => ?_) (fun hc35 => ?_)
    · try simp only [n1, n2, n3, n4, n5, n6, n7, n8, n9, na, nb] at hc35
      refine wp_seq ?_
      refine wp_region_lit ?_
      refine l_op rfl (r_assign hst rfl rfl ?_)
      clear hst; intro a hst
      refine wpList_nil ?_
      refine then_n ?_
      refine wp_ret ?_
      refine inb_r ?_
      refine then_r ?_
      refine then_r ?_
      refine x_ret (rs := [.tmp 2]) hst rfl (.tmp rfl (.nil)) ?_
      exact ⟨_, rfl, by omega, by omega, by omega, by omega, by omega, by omega⟩
    try simp only [n1, n2, n3, n4, n5, n6, n7, n8, n9, na, nb] at hc35
    refine wp_skip ?_
    refine inb_n ?_
    exact ⟨_, (hst.keep (ds := [0]) (.cons rfl (.nil))), by omega, by omega, by omega⟩
  try simp only [n1, n2, n3, n4, n5, n6, n7, n8, n9, na, nb] at hc34
  refine l_off hst rfl rfl rfl (by decide) rfl rfl ?_
  clear hst; intro a hst
  refine l_off hst rfl rfl rfl (by decide) rfl rfl ?_
  clear hst; intro a hst
  refine l_op rfl (r_pick hst rfl rfl rfl ?_)
  clear hst; intro a hst
  refine l_op rfl (r_assign hst rfl rfl ?_)
  clear hst; intro a hst
  refine wpList_nil ?_
  refine then_n ?_
  refine x_cond_f hst rfl ?_
  refine wp_skip ?_
  refine inb_n ?_
  exact ⟨_, (hst.keep (ds := [0]) (.cons rfl (.nil))), by omega, by omega, by omega⟩

theorem hasprefix_c {w : World} {U : Mk} (s t : ByteArray) :
    CallsS Tryz.prog 83 [.string s, .string t] w U (fun v _ _ => ∃ b : Bool, v = .bool b ∧ (b = true ↔ s.toList.take t.toList.length = t.toList)) := by
  refine x_enter (F := fun _ _ => True) (n := 18) Tryz.func83 rfl rfl (by simp) (.cons (d := 0) rfl (.cons (d := 1) rfl (.nil))) (Mono.true_) (trivial) ?_
  intro a hst
  refine wp_seq ?_
  refine wp_region_lit ?_
  refine l_op rfl (r_assign hst rfl rfl ?_)
  clear hst; intro a hst
  refine wpList_nil ?_
  refine then_n ?_
  refine wp_seq ?_
  refine wp_region_lit ?_
  refine l_op rfl (r_move hst rfl rfl ?_)
  clear hst; intro a hst
  refine l_op rfl (r_lenstr hst rfl Tu9 rfl ?_)
  clear hst; intro a hst
  refine l_op rfl (r_move hst rfl rfl ?_)
  clear hst; intro a hst
  refine l_op rfl (r_lenstr hst rfl Tu9 rfl ?_)
  clear hst; intro a hst
  refine l_op rfl (r_bin hst rfl rfl rfl rfl rfl ?_)
  clear hst; intro a hst
  refine l_op rfl (r_move hst rfl rfl ?_)
  clear hst; intro a hst
  refine hst.split (t := 10) rfl (fun hc1 hst => ?_) (fun hc1 hst => ?_)
  · try simp only [n1, n2, n3, n4, n5, n6, n7, n8, n9, na, nb] at hc1
    refine l_on hst rfl rfl rfl (r_move hst rfl rfl ?_)
    clear hst; intro a hst
    refine l_on hst rfl rfl rfl (r_move hst rfl rfl ?_)
    clear hst; intro a hst
    refine l_on hst rfl rfl rfl (r_lenstr hst rfl Tu9 rfl ?_)
    clear hst; intro a hst
    refine l_on hst rfl rfl rfl (r_substr_hi hst rfl rfl Tu9 (by omega) (by omega) rfl ?_)
    clear hst; intro a hst
    refine l_on hst rfl rfl rfl (r_move hst rfl rfl ?_)
    clear hst; intro a hst
    refine l_on hst rfl rfl rfl (r_bin hst rfl rfl rfl rfl rfl ?_)
    clear hst; intro a hst
    refine l_op rfl (r_pick hst rfl rfl rfl ?_)
    clear hst; intro a hst
    refine l_op rfl (r_assign hst rfl rfl ?_)
    clear hst; intro a hst
    refine wpList_nil ?_
    refine then_n ?_
    refine wp_ret ?_
    refine x_ret (rs := [.tmp 4]) hst rfl (.tmp rfl (.nil)) ?_
    have hsz := size_toList s
    have htz := size_toList t
    first | exact ⟨_, rfl, by rw [toList_extract, htz]; simp⟩ | exact ⟨_, rfl, ⟨fun h => absurd h (by decide), fun h => by have := congrArg List.length h; simp at this; omega⟩⟩
  try simp only [n1, n2, n3, n4, n5, n6, n7, n8, n9, na, nb] at hc1
  refine l_off hst rfl rfl rfl (by decide) rfl rfl ?_
  clear hst; intro a hst
  refine l_off hst rfl rfl rfl (by decide) rfl rfl ?_
  clear hst; intro a hst
  refine l_off hst rfl rfl rfl (by decide) rfl rfl ?_
  clear hst; intro a hst
  refine l_off hst rfl rfl rfl (by decide) rfl rfl ?_
  clear hst; intro a hst
  refine l_off hst rfl rfl rfl (by decide) rfl rfl ?_
  clear hst; intro a hst
  refine l_off hst rfl rfl rfl (by decide) rfl rfl ?_
  clear hst; intro a hst
  refine l_op rfl (r_pick hst rfl rfl rfl ?_)
  clear hst; intro a hst
  refine l_op rfl (r_assign hst rfl rfl ?_)
  clear hst; intro a hst
  refine wpList_nil ?_
  refine then_n ?_
  refine wp_ret ?_
  refine x_ret (rs := [.tmp 4]) hst rfl (.tmp rfl (.nil)) ?_
  have hsz := size_toList s
  have htz := size_toList t
  first | exact ⟨_, rfl, by rw [toList_extract, htz]; simp⟩ | exact ⟨_, rfl, ⟨fun h => absurd h (by decide), fun h => by have := congrArg List.length h; simp at this; omega⟩⟩

theorem prefix_c {w : World} {U : Mk} (s t : ByteArray) :
    CallsS Tryz.prog 66 [.string s, .string t] w U (fun v _ _ => ∃ b : Bool, v = .bool b ∧ (b = true ↔ s.toList.take t.toList.length = t.toList)) := by
  refine x_enter (F := fun _ _ => True) (n := 8) Tryz.func66 rfl rfl (by simp) (.cons (d := 0) rfl (.cons (d := 1) rfl (.nil))) (Mono.true_) (trivial) ?_
  intro a hst
  refine wp_seq ?_
  refine wp_region_lit ?_
  refine l_op rfl (r_assign hst rfl rfl ?_)
  clear hst; intro a hst
  refine wpList_nil ?_
  refine then_n ?_
  refine wp_seq ?_
  refine wp_region_lit ?_
  refine l_op rfl (r_move hst rfl rfl ?_)
  clear hst; intro a hst
  refine l_op rfl (r_move hst rfl rfl ?_)
  clear hst; intro a hst
  refine l_op rfl (r_call (xs := [(Operand.tmp 5), (Operand.tmp 6)]) hst rfl Ten83 (hasprefix_c _ _) rfl ?_)
  clear hst; rintro a _ w U ⟨bp, rfl, hbp⟩ hst
  refine l_op rfl (r_assign hst rfl rfl ?_)
  clear hst; intro a hst
  refine wpList_nil ?_
  refine then_n ?_
  refine wp_ret ?_
  refine x_ret (rs := [.tmp 4]) hst rfl (.tmp rfl (.nil)) ?_
  exact ⟨_, rfl, hbp⟩

def InvIdx (w0 : World) (U0 : Mk) (A : Option Addr) (m c : Nat) (ts : List (List UInt8)) (s : ByteArray) (mz : Nat) (a : Act) (w : World) : Prop :=
  ∃ (U : Mk) (i : Int), Sta w0 U0 19 [(0, .slice A m c), (1, .string s), (7, .int .i64 (m : Int)), (8, .int .i64 i)] [] [] (Sl kS (.slice A m c) ts) a w U ∧ 0 ≤ i ∧ i ≤ m ∧ (∀ j : Nat, (j : Int) < i → ts[j]? ≠ some s.toList) ∧ mz = ((m : Int) - i).toNat
theorem notin_all {ts : List (List UInt8)} {s : List UInt8} {i : Int} {m : Nat} (h : ∀ j : Nat, (j : Int) < i → ts[j]? ≠ some s) (hl : ts.length = m) (hi : ¬ i < m) : s ∉ ts := fun hm => by
  obtain ⟨j, hj, he⟩ := List.getElem_of_mem hm
  exact h j (by omega) (by rw [List.getElem?_eq_getElem hj, he])
theorem notin_next {ts : List (List UInt8)} {s t : List UInt8} {i : Int} (h : ∀ j : Nat, (j : Int) < i → ts[j]? ≠ some s) (h0 : 0 ≤ i) (ht : ts[i.toNat]? = some t) (hne : ¬ s = t) : ∀ j : Nat, (j : Int) < i + 1 → ts[j]? ≠ some s := fun j hj he => by
  by_cases hji : (j : Int) < i
  · exact h j hji he
  · have : j = i.toNat := by omega
    subst this
    rw [ht] at he
    exact hne (Option.some.inj he).symm

theorem index_c {w : World} {U : Mk} {A : Option Addr} {m c : Nat} (ts : List (List UInt8)) (s : ByteArray) (hF : Sl kS (.slice A m c) ts w U) :
    CallsS Tryz.prog 110 [.slice A m c, .string s] w U (fun v _ _ => ∃ i : Int, v = .int .i64 i ∧ (0 ≤ i ↔ s.toList ∈ ts)) := by
  refine x_enter (F := Sl kS (.slice A m c) ts) (n := 19) Tryz.func110 rfl rfl (by simp) (.cons (d := 0) rfl (.cons (d := 1) rfl (.nil))) (Sl.mono _ _ _) (hF) ?_
  intro a hst
  refine wp_seq ?_
  refine wp_region_lit ?_
  refine l_op rfl (r_assign hst rfl rfl ?_)
  clear hst; intro a hst
  refine wpList_nil ?_
  refine then_n ?_
  refine wp_seq ?_
  refine wp_seq ?_
  have hlen := hst.fact.len
  refine wp_region_lit ?_
  refine l_op rfl (r_move hst rfl rfl ?_)
  clear hst; intro a hst
  refine l_op rfl (r_lensl hst rfl Tu39 rfl ?_)
  clear hst; intro a hst
  refine l_op rfl (r_move hst rfl rfl ?_)
  clear hst; intro a hst
  refine wpList_nil ?_
  refine then_n ?_
  refine wp_block ?_
  have hst := ((hst.keep (ds := [0, 1, 7, 8]) (.cons rfl (.cons rfl (.cons rfl (.cons rfl (.nil)))))).drop (.slnil))
  refine wp_loop_ghost (InvIdx _ _ A m c ts s) (m) ⟨_, 0, hst, by omega, by omega, fun j hj => by omega, by omega⟩ ?_
  clear hst
  rintro mz a w ⟨U, i, hst, hi0, hi1, hni, rfl⟩
  refine wp_seq ?_
  refine wp_region_lit ?_
  refine l_op rfl (r_bin hst rfl rfl rfl rfl rfl ?_)
  clear hst; intro a hst
  refine wpList_nil ?_
  refine then_n ?_
  refine wp_seq ?_
  refine x_cond hst rfl (fun hc1 => ?_) (fun hc1 => ?_)
  · try simp only [n1, n2, n3, n4, n5, n6, n7, n8, n9, na, nb] at hc1
    refine wp_skip ?_
    refine then_n ?_
    refine wp_seq ?_
    refine wp_block ?_
    refine wp_seq ?_
    refine wp_region_lit ?_
    refine l_op rfl (r_move hst rfl rfl ?_)
    clear hst; intro a hst
    refine l_op rfl (r_assign hst rfl rfl ?_)
    clear hst; intro a hst
    refine wpList_nil ?_
    refine then_n ?_
    refine wp_seq ?_
    obtain ⟨g, o, cs, t, rfl, ht, ⟨s', rfl, rfl⟩, hel⟩ := hst.fact.at_ i.toNat (by omega)
    have hst := hst.addFact (Eat.mono _ _ _) hel
    refine wp_region_lit ?_
    refine l_op rfl (r_move hst rfl rfl ?_)
    clear hst; intro a hst
    refine l_op rfl (r_move hst rfl rfl ?_)
    clear hst; intro a hst
    refine l_op rfl (r_move hst rfl rfl ?_)
    clear hst; intro a hst
    refine l_op rfl (r_indexAddr hst rfl rfl Tu39 Tsz9 (hi0) (by omega) rfl ?_)
    clear hst; intro a hst
    refine l_op rfl (r_eats hst rfl Ts9 (hst.fact.1) (j := 0) rfl rfl rfl ?_)
    clear hst; intro a hst
    refine l_op rfl (r_bin hst rfl rfl rfl rfl rfl ?_)
    clear hst; intro a hst
    refine wpList_nil ?_
    refine then_n ?_
    refine x_cond hst rfl (fun hc2 => ?_) (fun hc2 => ?_)
    · try simp only [n1, n2, n3, n4, n5, n6, n7, n8, n9, na, nb] at hc2
      refine wp_seq ?_
      refine wp_region_lit ?_
      refine l_op rfl (r_move hst rfl rfl ?_)
      clear hst; intro a hst
      refine l_op rfl (r_assign hst rfl rfl ?_)
      clear hst; intro a hst
      refine wpList_nil ?_
      refine then_n ?_
      refine wp_ret ?_
      refine inb_r ?_
      refine then_r ?_
      refine then_r ?_
      refine inb_r ?_
      refine then_r ?_
      refine x_ret (rs := [.tmp 4]) hst rfl (.tmp rfl (.nil)) ?_
      exact ⟨_, rfl, ⟨fun _ => List.mem_of_getElem? (by rw [ht]; simp_all), fun _ => hi0⟩⟩
    try simp only [n1, n2, n3, n4, n5, n6, n7, n8, n9, na, nb] at hc2
    refine wp_skip ?_
    refine inb_n ?_
    refine then_n ?_
    refine wp_region_lit ?_
    refine l_op rfl (r_bin hst rfl rfl rfl rfl rfl ?_)
    clear hst; intro a hst
    rw [wrap_in _ (by omega) (by omega)] at hst
    refine l_op rfl (r_move hst rfl rfl ?_)
    clear hst; intro a hst
    refine wpList_nil ?_
    have hst := ((hst.keep (ds := [0, 1, 7, 8]) (.cons rfl (.cons rfl (.cons rfl (.cons rfl (.nil)))))).drop (.slnil))
    exact then_k ⟨_, by omega, _, _, hst.setFact (Sl.mono _ _ _) (fun h => h.2), by omega, by omega, notin_next hni hi0 ht (by assumption), rfl⟩
  try simp only [n1, n2, n3, n4, n5, n6, n7, n8, n9, na, nb] at hc1
  refine wp_exit ?_
  refine then_x ?_
  refine then_x ?_
  refine inb_hit ?_
  refine then_n ?_
  refine wp_seq ?_
  refine wp_region_lit ?_
  refine l_op rfl (r_assign hst rfl rfl ?_)
  clear hst; intro a hst
  refine wpList_nil ?_
  refine then_n ?_
  refine wp_ret ?_
  refine x_ret (rs := [.tmp 4]) hst rfl (.tmp rfl (.nil)) ?_
  exact ⟨_, rfl, ⟨fun h => absurd h (by decide), fun h => absurd h (notin_all hni hlen.1 (by omega))⟩⟩

theorem contains_c {w : World} {U : Mk} {A : Option Addr} {m c : Nat} (ts : List (List UInt8)) (s : ByteArray) (hF : Sl kS (.slice A m c) ts w U) :
    CallsS Tryz.prog 104 [.slice A m c, .string s] w U (fun v _ _ => ∃ b : Bool, v = .bool b ∧ (b = true ↔ s.toList ∈ ts)) := by
  refine x_enter (F := Sl kS (.slice A m c) ts) (n := 9) Tryz.func104 rfl rfl (by simp) (.cons (d := 0) rfl (.cons (d := 1) rfl (.nil))) (Sl.mono _ _ _) (hF) ?_
  intro a hst
  refine wp_seq ?_
  refine wp_region_lit ?_
  refine l_op rfl (r_assign hst rfl rfl ?_)
  clear hst; intro a hst
  refine wpList_nil ?_
  refine then_n ?_
  refine wp_seq ?_
  refine wp_region_lit ?_
  refine l_op rfl (r_move hst rfl rfl ?_)
  clear hst; intro a hst
  refine l_op rfl (r_move hst rfl rfl ?_)
  clear hst; intro a hst
  refine l_op rfl (r_call (xs := [(Operand.tmp 5), (Operand.tmp 6)]) hst rfl Ten110 (index_c _ _ hst.fact) rfl ?_)
  clear hst; rintro a _ w U ⟨ix, rfl, hix⟩ hst
  refine l_op rfl (r_bin hst rfl rfl rfl rfl rfl ?_)
  clear hst; intro a hst
  refine l_op rfl (r_assign hst rfl rfl ?_)
  clear hst; intro a hst
  refine wpList_nil ?_
  refine then_n ?_
  refine wp_ret ?_
  refine x_ret (rs := [.tmp 4]) hst rfl (.tmp rfl (.nil)) ?_
  exact ⟨_, rfl, by simp [hix]⟩

/-- The cells that are strings, as texts. -/
def texts (cs : List Value) : List (List UInt8) := cs.map fun v => match v with | .string s => s.toList | _ => []
theorem texts_flat (w : World) (U : Mk) (cs : List Value) (h : cs.all isStr = true) : Flat kS cs (texts cs) w U := by
  refine ⟨by simp [kS, texts], fun j t ht => ?_⟩
  simp only [texts, List.getElem?_map, Option.map_eq_some_iff] at ht
  obtain ⟨v, hv, rfl⟩ := ht
  have hj : j < cs.length := (List.getElem?_eq_some_iff.1 hv).1
  have hs := List.all_eq_true.1 h v (List.mem_of_getElem? hv)
  have hd : (cs.drop (j * kS.sz)).take kS.sz = [v] := by
    simp only [kS, Nat.mul_one]
    rw [List.drop_eq_getElem_cons hj]
    have : cs[j] = v := by rw [List.getElem?_eq_getElem hj] at hv; exact Option.some.inj hv
    simp [this]
  rw [hd]
  cases v <;> simp [isStr] at hs
  exact ⟨_, rfl, rfl⟩
def keys : List (List UInt8) := [[100, 97, 116, 97], [108, 101, 116], [102, 114, 101, 101], [105, 110], [105, 102], [116, 104, 101, 110], [101, 108, 115, 101]]
def syms : List (List UInt8) := [[61, 61], [61], [124], [63], [60], [43], [45], [42], [40], [41], [95]]

theorem iskey_c {w : World} {U : Mk} (s : ByteArray) :
    CallsS Tryz.prog 85 [.string s] w U (fun v _ _ => ∃ b : Bool, v = .bool b ∧ (b = true ↔ s.toList ∈ keys)) := by
  refine x_enter (F := fun _ _ => True) (n := 6) Tryz.func85 rfl rfl (by simp) (.cons (d := 0) rfl (.nil)) (Mono.true_) (trivial) ?_
  intro a hst
  refine wp_seq ?_
  refine wp_region_lit ?_
  refine l_op rfl (r_assign hst rfl rfl ?_)
  clear hst; intro a hst
  refine wpList_nil ?_
  refine then_n ?_
  refine wp_seq ?_
  refine wp_region_lit ?_
  refine l_op rfl (r_sliceN (m := 7) (ps := [(0, (Operand.const (Value.string { data := #[100, 97, 116, 97] }))), (1, (Operand.const (Value.string { data := #[108, 101, 116] }))), (2, (Operand.const (Value.string { data := #[102, 114, 101, 101] }))), (3, (Operand.const (Value.string { data := #[105, 110] }))), (4, (Operand.const (Value.string { data := #[105, 102] }))), (5, (Operand.const (Value.string { data := #[116, 104, 101, 110] }))), (6, (Operand.const (Value.string { data := #[101, 108, 115, 101] })))]) hst Tu39 Tsz9 Tz9 (zs := [.string ⟨#[]⟩, .string ⟨#[]⟩, .string ⟨#[]⟩, .string ⟨#[]⟩, .string ⟨#[]⟩, .string ⟨#[]⟩, .string ⟨#[]⟩]) rfl rfl (by decide) (by decide) (.cons rfl rfl rfl rfl (.here (.nil (Nat.zero_le _))) (.cons rfl rfl rfl rfl (.there (.here (.nil (Nat.zero_le _)))) (.cons rfl rfl rfl rfl (.there (.there (.here (.nil (Nat.zero_le _))))) (.cons rfl rfl rfl rfl (.there (.there (.there (.here (.nil (Nat.zero_le _)))))) (.cons rfl rfl rfl rfl (.there (.there (.there (.there (.here (.nil (Nat.zero_le _))))))) (.cons rfl rfl rfl rfl (.there (.there (.there (.there (.there (.here (.nil (Nat.zero_le _)))))))) (.cons rfl rfl rfl rfl (.there (.there (.there (.there (.there (.there (.here (.nil (Nat.zero_le _))))))))) (.nil)))))))) rfl ?_)
  clear hst; intro a w g1 hst
  refine l_op rfl (r_move hst rfl rfl ?_)
  clear hst; intro a hst
  obtain ⟨U, hext, hcont, hst⟩ := hst.settle_ (.head)
  have hsl : Sl kS (.slice (some ⟨g1, 0, none⟩) 7 7) keys w U := by
    have := Sl.of_flat (hcont 7 7) (texts_flat w U _ rfl) rfl (by decide)
    simpa [texts, keys] using this
  refine l_op rfl (r_call (xs := [(Operand.tmp 3), (Operand.tmp 4)]) hst rfl Ten104 (contains_c _ _ hsl) rfl ?_)
  clear hst; rintro a _ w U ⟨bi, rfl, hbi⟩ hst
  refine l_op rfl (r_assign hst rfl rfl ?_)
  clear hst; intro a hst
  refine wpList_nil ?_
  refine then_n ?_
  refine wp_ret ?_
  refine x_ret (rs := [.tmp 2]) hst rfl (.tmp rfl (.nil)) ?_
  exact ⟨_, rfl, hbi⟩

theorem psyms_c {w : World} {U : Mk}  :
    CallsS Tryz.prog 71 [] w U (fun v w' U' => ∃ (A : Option Addr) (c : Nat), v = .slice A 11 c ∧ Sl kS (.slice A 11 c) syms w' U') := by
  refine x_enter (F := fun _ _ => True) (n := 2) Tryz.func71 rfl rfl (by simp) (.nil) (Mono.true_) (trivial) ?_
  intro a hst
  refine wp_seq ?_
  refine wp_region_lit ?_
  refine l_op rfl (r_assign hst rfl rfl ?_)
  clear hst; intro a hst
  refine wpList_nil ?_
  refine then_n ?_
  refine wp_seq ?_
  refine wp_region_lit ?_
  refine l_op rfl (r_sliceN (m := 11) (ps := [(0, (Operand.const (Value.string { data := #[61, 61] }))), (1, (Operand.const (Value.string { data := #[61] }))), (2, (Operand.const (Value.string { data := #[124] }))), (3, (Operand.const (Value.string { data := #[63] }))), (4, (Operand.const (Value.string { data := #[60] }))), (5, (Operand.const (Value.string { data := #[43] }))), (6, (Operand.const (Value.string { data := #[45] }))), (7, (Operand.const (Value.string { data := #[42] }))), (8, (Operand.const (Value.string { data := #[40] }))), (9, (Operand.const (Value.string { data := #[41] }))), (10, (Operand.const (Value.string { data := #[95] })))]) hst Tu39 Tsz9 Tz9 (zs := [.string ⟨#[]⟩, .string ⟨#[]⟩, .string ⟨#[]⟩, .string ⟨#[]⟩, .string ⟨#[]⟩, .string ⟨#[]⟩, .string ⟨#[]⟩, .string ⟨#[]⟩, .string ⟨#[]⟩, .string ⟨#[]⟩, .string ⟨#[]⟩]) rfl rfl (by decide) (by decide) (.cons rfl rfl rfl rfl (.here (.nil (Nat.zero_le _))) (.cons rfl rfl rfl rfl (.there (.here (.nil (Nat.zero_le _)))) (.cons rfl rfl rfl rfl (.there (.there (.here (.nil (Nat.zero_le _))))) (.cons rfl rfl rfl rfl (.there (.there (.there (.here (.nil (Nat.zero_le _)))))) (.cons rfl rfl rfl rfl (.there (.there (.there (.there (.here (.nil (Nat.zero_le _))))))) (.cons rfl rfl rfl rfl (.there (.there (.there (.there (.there (.here (.nil (Nat.zero_le _)))))))) (.cons rfl rfl rfl rfl (.there (.there (.there (.there (.there (.there (.here (.nil (Nat.zero_le _))))))))) (.cons rfl rfl rfl rfl (.there (.there (.there (.there (.there (.there (.there (.here (.nil (Nat.zero_le _)))))))))) (.cons rfl rfl rfl rfl (.there (.there (.there (.there (.there (.there (.there (.there (.here (.nil (Nat.zero_le _))))))))))) (.cons rfl rfl rfl rfl (.there (.there (.there (.there (.there (.there (.there (.there (.there (.here (.nil (Nat.zero_le _)))))))))))) (.cons rfl rfl rfl rfl (.there (.there (.there (.there (.there (.there (.there (.there (.there (.there (.here (.nil (Nat.zero_le _))))))))))))) (.nil)))))))))))) rfl ?_)
  clear hst; intro a w g1 hst
  refine l_op rfl (r_assign hst rfl rfl ?_)
  clear hst; intro a hst
  refine wpList_nil ?_
  refine then_n ?_
  refine wp_ret ?_
  obtain ⟨U, hext, hcont, hst⟩ := hst.settle_ (.head)
  have hsl : Sl kS (.slice (some ⟨g1, 0, none⟩) 11 11) syms w U := by
    have := Sl.of_flat (hcont 11 11) (texts_flat w U _ rfl) rfl (by decide)
    simpa [texts, syms] using this
  refine x_ret (rs := [.tmp 0]) hst rfl (.tmp rfl (.nil)) ?_
  exact ⟨_, _, rfl, hsl⟩

def InvWd (w0 : World) (U0 : Mk) (s : ByteArray) (k : Int) (mz : Nat) (a : Act) (w : World) : Prop :=
  ∃ (U : Mk) (i : Int), Sta w0 U0 41 [(0, .string s), (22, .int .i64 (s.size : Int)), (23, .int .i64 i)] [] [] (fun _ _ => True) a w U ∧ 0 ≤ i ∧ i ≤ 1 ∧ mz = (1 - i).toNat

theorem wordc_c {w : World} {U : Mk} (s : ByteArray) (c : UInt8) (hs : s.toList = [c]) (hc65 : 65 ≤ (c.toNat : Int)) (hc90 : (c.toNat : Int) ≤ 90) (k : Int) :
    CallsS Tryz.prog 105 [.string s, .int .i64 k] w U (fun v _ _ => ∃ b : Bool, v = .bool b ∧ (b = true ↔ k = 2)) := by
  refine x_enter (F := fun _ _ => True) (n := 41) Tryz.func105 rfl rfl (by simp) (.cons (d := 0) rfl (.cons (d := 1) rfl (.nil))) (Mono.true_) (trivial) ?_
  intro a hst
  refine wp_seq ?_
  refine wp_region_lit ?_
  refine l_op rfl (r_assign hst rfl rfl ?_)
  clear hst; intro a hst
  have hsz : s.size = 1 := by have := size_toList s; rw [hs] at this; exact this.symm
  refine wpList_nil ?_
  refine then_n ?_
  refine wp_scope_straight ?_
  refine wp_seq ?_
  refine wp_seq ?_
  refine wp_region_lit ?_
  refine l_op rfl (r_move hst rfl rfl ?_)
  clear hst; intro a hst
  refine l_op rfl (r_bin hst rfl rfl rfl rfl rfl ?_)
  clear hst; intro a hst
  refine l_op rfl (r_move hst rfl rfl ?_)
  clear hst; intro a hst
  refine hst.split (t := 9) rfl (fun hc1 hst => ?_) (fun hc1 hst => ?_)
  · try simp only [n1, n2, n3, n4, n5, n6, n7, n8, n9, na, nb] at hc1
    refine l_off hst rfl rfl rfl (by decide) rfl rfl ?_
    clear hst; intro a hst
    refine l_off hst rfl rfl rfl (by decide) rfl rfl ?_
    clear hst; intro a hst
    refine l_off hst rfl rfl rfl (by decide) rfl rfl ?_
    clear hst; intro a hst
    refine l_op rfl (r_pick hst rfl rfl rfl ?_)
    clear hst; intro a hst
    refine l_op rfl (r_move hst rfl rfl ?_)
    clear hst; intro a hst
    refine l_off hst rfl rfl rfl (by decide) rfl rfl ?_
    clear hst; intro a hst
    refine l_off hst rfl rfl rfl (by decide) rfl rfl ?_
    clear hst; intro a hst
    refine l_off hst rfl rfl rfl (by decide) rfl rfl ?_
    clear hst; intro a hst
    refine l_off hst rfl rfl rfl (by decide) rfl rfl ?_
    clear hst; intro a hst
    refine l_off hst rfl rfl rfl (by decide) rfl rfl ?_
    clear hst; intro a hst
    refine l_op rfl (r_pick hst rfl rfl rfl ?_)
    clear hst; intro a hst
    refine wpList_nil ?_
    refine then_n ?_
    refine x_cond_t hst rfl ?_
    refine wp_seq ?_
    refine wp_region_lit ?_
    refine l_op rfl (r_assign hst rfl rfl ?_)
    clear hst; intro a hst
    refine wpList_nil ?_
    refine then_n ?_
    refine wp_ret ?_
    refine then_r ?_
    refine nogo_r ?_
    refine x_ret (rs := [.tmp 4]) hst rfl (.tmp rfl (.nil)) ?_
    exact ⟨_, rfl, ⟨fun h => absurd h (by decide), fun h => by first | omega | (exfalso; simp_all [ByteArray.toList_eq])⟩⟩
  try simp only [n1, n2, n3, n4, n5, n6, n7, n8, n9, na, nb] at hc1
  refine l_on hst rfl rfl rfl (r_move hst rfl rfl ?_)
  clear hst; intro a hst
  refine l_on hst rfl rfl rfl (r_lenstr hst rfl Tu9 rfl ?_)
  clear hst; intro a hst
  refine l_on hst rfl rfl rfl (r_bin hst rfl rfl rfl rfl rfl ?_)
  clear hst; intro a hst
  refine l_op rfl (r_pick hst rfl rfl rfl ?_)
  clear hst; intro a hst
  refine l_op rfl (r_move hst rfl rfl ?_)
  clear hst; intro a hst
  refine hst.split (t := 14) rfl (fun hc2 hst => ?_) (fun hc2 hst => ?_)
  · try simp only [n1, n2, n3, n4, n5, n6, n7, n8, n9, na, nb] at hc2
    refine l_off hst rfl rfl rfl (by decide) rfl rfl ?_
    clear hst; intro a hst
    refine l_off hst rfl rfl rfl (by decide) rfl rfl ?_
    clear hst; intro a hst
    refine l_off hst rfl rfl rfl (by decide) rfl rfl ?_
    clear hst; intro a hst
    refine l_off hst rfl rfl rfl (by decide) rfl rfl ?_
    clear hst; intro a hst
    refine l_off hst rfl rfl rfl (by decide) rfl rfl ?_
    clear hst; intro a hst
    refine l_op rfl (r_pick hst rfl rfl rfl ?_)
    clear hst; intro a hst
    refine wpList_nil ?_
    refine then_n ?_
    refine x_cond_t hst rfl ?_
    refine wp_seq ?_
    refine wp_region_lit ?_
    refine l_op rfl (r_assign hst rfl rfl ?_)
    clear hst; intro a hst
    refine wpList_nil ?_
    refine then_n ?_
    refine wp_ret ?_
    refine then_r ?_
    refine nogo_r ?_
    refine x_ret (rs := [.tmp 4]) hst rfl (.tmp rfl (.nil)) ?_
    exact ⟨_, rfl, ⟨fun h => absurd h (by decide), fun h => by first | omega | (exfalso; simp_all [ByteArray.toList_eq])⟩⟩
  try simp only [n1, n2, n3, n4, n5, n6, n7, n8, n9, na, nb] at hc2
  refine l_on hst rfl rfl rfl (r_move hst rfl rfl ?_)
  clear hst; intro a hst
  refine l_on hst rfl rfl rfl (r_indexS hst rfl rfl Tu9 (by decide) (b := c) (by rw [hs]; rfl) rfl ?_)
  clear hst; intro a hst
  refine l_on hst rfl rfl rfl (r_call (xs := [(Operand.tmp 16)]) hst rfl Ten65 (cls_c _) rfl ?_)
  clear hst; rintro a _ w U ⟨kc1, rfl, hk1r, hk1a, hk1b, hk1c, hk1d, hk1e⟩ hst
  refine l_on hst rfl rfl rfl (r_move hst rfl rfl ?_)
  clear hst; intro a hst
  refine l_on hst rfl rfl rfl (r_bin hst rfl rfl rfl rfl rfl ?_)
  clear hst; intro a hst
  refine l_op rfl (r_pick hst rfl rfl rfl ?_)
  clear hst; intro a hst
  refine wpList_nil ?_
  refine then_n ?_
  refine x_cond hst rfl (fun hc3 => ?_) (fun hc3 => ?_)
  · try simp only [n1, n2, n3, n4, n5, n6, n7, n8, n9, na, nb] at hc3
    refine wp_seq ?_
    refine wp_region_lit ?_
    refine l_op rfl (r_assign hst rfl rfl ?_)
    clear hst; intro a hst
    refine wpList_nil ?_
    refine then_n ?_
    refine wp_ret ?_
    refine then_r ?_
    refine nogo_r ?_
    refine x_ret (rs := [.tmp 4]) hst rfl (.tmp rfl (.nil)) ?_
    exact ⟨_, rfl, ⟨fun h => absurd h (by decide), fun h => by first | omega | (exfalso; simp_all [ByteArray.toList_eq])⟩⟩
  try simp only [n1, n2, n3, n4, n5, n6, n7, n8, n9, na, nb] at hc3
  refine wp_skip ?_
  refine then_n ?_
  refine wp_seq ?_
  refine wp_label ?_
  refine then_n ?_
  refine wp_seq ?_
  refine wp_seq ?_
  refine wp_region_lit ?_
  refine l_op rfl (r_move hst rfl rfl ?_)
  clear hst; intro a hst
  refine l_op rfl (r_lenstr hst rfl Tu9 rfl ?_)
  clear hst; intro a hst
  refine l_op rfl (r_move hst rfl rfl ?_)
  clear hst; intro a hst
  refine wpList_nil ?_
  refine then_n ?_
  refine wp_block ?_
  have hst := ((hst.keep (ds := [0, 22, 23]) (.cons rfl (.cons rfl (.cons rfl (.nil))))).drop (.slnil))
  refine wp_loop_ghost (InvWd _ _ s k) (1) ⟨_, 0, hst, by omega, by omega, by omega⟩ ?_
  clear hst
  rintro mz a w ⟨U, i, hst, hi0, hi1, rfl⟩
  refine wp_seq ?_
  refine wp_region_lit ?_
  refine l_op rfl (r_bin hst rfl rfl rfl rfl rfl ?_)
  clear hst; intro a hst
  refine wpList_nil ?_
  refine then_n ?_
  refine wp_seq ?_
  refine x_cond hst rfl (fun hc4 => ?_) (fun hc4 => ?_)
  · try simp only [n1, n2, n3, n4, n5, n6, n7, n8, n9, na, nb] at hc4
    refine wp_skip ?_
    refine then_n ?_
    refine wp_seq ?_
    refine wp_block ?_
    refine wp_seq ?_
    refine wp_region_lit ?_
    refine l_op rfl (r_move hst rfl rfl ?_)
    clear hst; intro a hst
    refine l_op rfl (r_assign hst rfl rfl ?_)
    clear hst; intro a hst
    refine wpList_nil ?_
    refine then_n ?_
    refine wp_seq ?_
    refine wp_seq ?_
    refine wp_region_lit ?_
    refine l_op rfl (r_move hst rfl rfl ?_)
    clear hst; intro a hst
    refine l_op rfl (r_move hst rfl rfl ?_)
    clear hst; intro a hst
    refine l_op rfl (r_indexS hst rfl rfl Tu9 (by omega) (b := c) (by rw [show i.toNat = 0 by omega, hs]; rfl) rfl ?_)
    clear hst; intro a hst
    refine l_op rfl (r_bin hst rfl rfl rfl rfl rfl ?_)
    clear hst; intro a hst
    refine wpList_nil ?_
    refine then_n ?_
    refine x_cond hst rfl (fun hc5 => ?_) (fun hc5 => ?_)
    · try simp only [n1, n2, n3, n4, n5, n6, n7, n8, n9, na, nb] at hc5
      refine wp_exit ?_
      refine then_x ?_
      refine inb_hit ?_
      refine then_n ?_
      refine wp_region_lit ?_
      refine l_op rfl (r_bin hst rfl rfl rfl rfl rfl ?_)
      clear hst; intro a hst
      rw [wrap_in _ (by omega) (by omega)] at hst
      refine l_op rfl (r_move hst rfl rfl ?_)
      clear hst; intro a hst
      refine wpList_nil ?_
      have hst := ((hst.keep (ds := [0, 22, 23]) (.cons rfl (.cons rfl (.cons rfl (.nil))))).drop (.slnil))
      exact then_k ⟨_, by omega, _, _, hst, by omega, by omega, rfl⟩
    try simp only [n1, n2, n3, n4, n5, n6, n7, n8, n9, na, nb] at hc5
    refine wp_skip ?_
    refine then_n ?_
    refine wp_seq ?_
    refine wp_region_lit ?_
    refine l_op rfl (r_move hst rfl rfl ?_)
    clear hst; intro a hst
    refine l_op rfl (r_move hst rfl rfl ?_)
    clear hst; intro a hst
    refine l_op rfl (r_indexS hst rfl rfl Tu9 (by omega) (b := c) (by rw [show i.toNat = 0 by omega, hs]; rfl) rfl ?_)
    clear hst; intro a hst
    refine l_op rfl (r_call (xs := [(Operand.tmp 32)]) hst rfl Ten65 (cls_c _) rfl ?_)
    clear hst; rintro a _ w U ⟨kc2, rfl, hk2r, hk2a, hk2b, hk2c, hk2d, hk2e⟩ hst
    refine l_op rfl (r_assign hst rfl rfl ?_)
    clear hst; intro a hst
    refine wpList_nil ?_
    refine then_n ?_
    refine wp_seq ?_
    refine wp_region_lit ?_
    refine l_op rfl (r_move hst rfl rfl ?_)
    clear hst; intro a hst
    refine l_op rfl (r_bin hst rfl rfl rfl rfl rfl ?_)
    clear hst; intro a hst
    refine l_op rfl (r_move hst rfl rfl ?_)
    clear hst; intro a hst
    refine hst.split (t := 36) rfl (fun hc6 hst => ?_) (fun hc6 hst => ?_)
    · try simp only [n1, n2, n3, n4, n5, n6, n7, n8, n9, na, nb] at hc6
      refine l_off hst rfl rfl rfl (by decide) rfl rfl ?_
      clear hst; intro a hst
      refine l_off hst rfl rfl rfl (by decide) rfl rfl ?_
      clear hst; intro a hst
      refine l_op rfl (r_pick hst rfl rfl rfl ?_)
      clear hst; intro a hst
      refine wpList_nil ?_
      refine then_n ?_
      refine x_cond_t hst rfl ?_
      refine wp_seq ?_
      refine wp_region_lit ?_
      refine l_op rfl (r_assign hst rfl rfl ?_)
      clear hst; intro a hst
      refine wpList_nil ?_
      refine then_n ?_
      refine wp_ret ?_
      refine inb_r ?_
      refine then_r ?_
      refine then_r ?_
      refine inb_r ?_
      refine then_r ?_
      refine nogo_r ?_
      refine x_ret (rs := [.tmp 4]) hst rfl (.tmp rfl (.nil)) ?_
      exact ⟨_, rfl, ⟨fun h => absurd h (by decide), fun h => by first | omega | (exfalso; simp_all [ByteArray.toList_eq])⟩⟩
    try simp only [n1, n2, n3, n4, n5, n6, n7, n8, n9, na, nb] at hc6
    refine l_on hst rfl rfl rfl (r_move hst rfl rfl ?_)
    clear hst; intro a hst
    refine l_on hst rfl rfl rfl (r_bin hst rfl rfl rfl rfl rfl ?_)
    clear hst; intro a hst
    refine l_op rfl (r_pick hst rfl rfl rfl ?_)
    clear hst; intro a hst
    refine wpList_nil ?_
    refine then_n ?_
    refine x_cond hst rfl (fun hc7 => ?_) (fun hc7 => ?_)
    · try simp only [n1, n2, n3, n4, n5, n6, n7, n8, n9, na, nb] at hc7
      refine wp_seq ?_
      refine wp_region_lit ?_
      refine l_op rfl (r_assign hst rfl rfl ?_)
      clear hst; intro a hst
      refine wpList_nil ?_
      refine then_n ?_
      refine wp_ret ?_
      refine inb_r ?_
      refine then_r ?_
      refine then_r ?_
      refine inb_r ?_
      refine then_r ?_
      refine nogo_r ?_
      refine x_ret (rs := [.tmp 4]) hst rfl (.tmp rfl (.nil)) ?_
      exact ⟨_, rfl, ⟨fun h => absurd h (by decide), fun h => by first | omega | (exfalso; simp_all [ByteArray.toList_eq])⟩⟩
    try simp only [n1, n2, n3, n4, n5, n6, n7, n8, n9, na, nb] at hc7
    refine wp_skip ?_
    refine inb_n ?_
    refine then_n ?_
    refine wp_region_lit ?_
    refine l_op rfl (r_bin hst rfl rfl rfl rfl rfl ?_)
    clear hst; intro a hst
    rw [wrap_in _ (by omega) (by omega)] at hst
    refine l_op rfl (r_move hst rfl rfl ?_)
    clear hst; intro a hst
    refine wpList_nil ?_
    have hst := ((hst.keep (ds := [0, 22, 23]) (.cons rfl (.cons rfl (.cons rfl (.nil))))).drop (.slnil))
    exact then_k ⟨_, by omega, _, _, hst, by omega, by omega, rfl⟩
  try simp only [n1, n2, n3, n4, n5, n6, n7, n8, n9, na, nb] at hc4
  refine wp_exit ?_
  refine then_x ?_
  refine then_x ?_
  refine inb_hit ?_
  refine then_n ?_
  refine wp_seq ?_
  refine wp_region_lit ?_
  refine l_op rfl (r_assign hst rfl rfl ?_)
  clear hst; intro a hst
  refine wpList_nil ?_
  refine then_n ?_
  refine wp_ret ?_
  refine nogo_r ?_
  refine x_ret (rs := [.tmp 4]) hst rfl (.tmp rfl (.nil)) ?_
  exact ⟨_, rfl, ⟨fun _ => by omega, fun _ => rfl⟩⟩

theorem lowerc_c {w : World} {U : Mk} (s : ByteArray) (c : UInt8) (hs : s.toList = [c]) (hc65 : 65 ≤ (c.toNat : Int)) (hc90 : (c.toNat : Int) ≤ 90) :
    CallsS Tryz.prog 86 [.string s] w U (fun v _ _ => v = .bool false) := by
  refine x_enter (F := fun _ _ => True) (n := 10) Tryz.func86 rfl rfl (by simp) (.cons (d := 0) rfl (.nil)) (Mono.true_) (trivial) ?_
  intro a hst
  refine wp_seq ?_
  refine wp_region_lit ?_
  refine l_op rfl (r_assign hst rfl rfl ?_)
  clear hst; intro a hst
  refine wpList_nil ?_
  refine then_n ?_
  refine wp_seq ?_
  refine wp_region_lit ?_
  refine l_op rfl (r_move hst rfl rfl ?_)
  clear hst; intro a hst
  refine l_op rfl (r_call (xs := [(Operand.tmp 3), (Operand.const (Value.int IntKind.i64 1))]) hst rfl Ten105 (wordc_c _ c hs hc65 hc90 _) rfl ?_)
  clear hst; rintro a _ w U ⟨bw, rfl, hbw⟩ hst
  refine l_op rfl (r_move hst rfl rfl ?_)
  clear hst; intro a hst
  refine hst.split (t := 5) rfl (fun hc1 hst => ?_) (fun hc1 hst => ?_)
  · try simp only [n1, n2, n3, n4, n5, n6, n7, n8, n9, na, nb] at hc1
    refine l_on hst rfl rfl rfl (r_move hst rfl rfl ?_)
    clear hst; intro a hst
    refine l_on hst rfl rfl rfl (r_call (xs := [(Operand.tmp 6)]) hst rfl Ten85 (iskey_c _) rfl ?_)
    clear hst; rintro a _ w U ⟨bk, rfl, hbk⟩ hst
    refine l_on hst rfl rfl rfl (r_not hst rfl rfl ?_)
    clear hst; intro a hst
    refine l_op rfl (r_pick hst rfl rfl rfl ?_)
    clear hst; intro a hst
    refine l_op rfl (r_assign hst rfl rfl ?_)
    clear hst; intro a hst
    refine wpList_nil ?_
    refine then_n ?_
    refine wp_ret ?_
    refine x_ret (rs := [.tmp 2]) hst rfl (.tmp rfl (.nil)) ?_
    first | rfl | (exfalso; simp_all)
  try simp only [n1, n2, n3, n4, n5, n6, n7, n8, n9, na, nb] at hc1
  refine l_off hst rfl rfl rfl (by decide) rfl rfl ?_
  clear hst; intro a hst
  refine l_off hst rfl rfl rfl (by decide) rfl rfl ?_
  clear hst; intro a hst
  refine l_off hst rfl rfl rfl (by decide) rfl rfl ?_
  clear hst; intro a hst
  refine l_op rfl (r_pick hst rfl rfl rfl ?_)
  clear hst; intro a hst
  refine l_op rfl (r_assign hst rfl rfl ?_)
  clear hst; intro a hst
  refine wpList_nil ?_
  refine then_n ?_
  refine wp_ret ?_
  refine x_ret (rs := [.tmp 2]) hst rfl (.tmp rfl (.nil)) ?_
  first | rfl | (exfalso; simp_all)

theorem upperc_c {w : World} {U : Mk} (s : ByteArray) (c : UInt8) (hs : s.toList = [c]) (hc65 : 65 ≤ (c.toNat : Int)) (hc90 : (c.toNat : Int) ≤ 90) :
    CallsS Tryz.prog 87 [.string s] w U (fun v _ _ => v = .bool true) := by
  refine x_enter (F := fun _ _ => True) (n := 5) Tryz.func87 rfl rfl (by simp) (.cons (d := 0) rfl (.nil)) (Mono.true_) (trivial) ?_
  intro a hst
  refine wp_seq ?_
  refine wp_region_lit ?_
  refine l_op rfl (r_assign hst rfl rfl ?_)
  clear hst; intro a hst
  refine wpList_nil ?_
  refine then_n ?_
  refine wp_seq ?_
  refine wp_region_lit ?_
  refine l_op rfl (r_move hst rfl rfl ?_)
  clear hst; intro a hst
  refine l_op rfl (r_call (xs := [(Operand.tmp 3), (Operand.const (Value.int IntKind.i64 2))]) hst rfl Ten105 (wordc_c _ c hs hc65 hc90 _) rfl ?_)
  clear hst; rintro a _ w U ⟨bw, rfl, hbw⟩ hst
  refine l_op rfl (r_assign hst rfl rfl ?_)
  clear hst; intro a hst
  refine wpList_nil ?_
  refine then_n ?_
  refine wp_ret ?_
  refine x_ret (rs := [.tmp 2]) hst rfl (.tmp rfl (.nil)) ?_
  exact congrArg Value.bool (hbw.2 rfl)

theorem tokw_c {w : World} {U : Mk} (s : ByteArray) (kd : Int) (hkd : (s.toList = [100, 97, 116, 97] ∧ kd = 5) ∨ ∃ c : UInt8, s.toList = [c] ∧ 65 ≤ (c.toNat : Int) ∧ (c.toNat : Int) ≤ 90 ∧ kd = 3) :
    CallsS Tryz.prog 68 [.string s] w U (fun v _ _ => v = .tuple #[.agg #[.int .i64 kd, .string s, .int .i64 0, .int .i64 0, .int .i64 0], .bool true]) := by
  refine x_enter (F := fun _ _ => True) (n := 23) Tryz.func68 rfl rfl (by simp) (.cons (d := 0) rfl (.nil)) (Mono.true_) (trivial) ?_
  intro a hst
  refine wp_seq ?_
  refine wp_region_lit ?_
  refine l_op rfl (r_alloc hst Tz50 rfl ?_)
  clear hst; intro a w g1 hst
  refine l_op rfl (r_assign hst rfl rfl ?_)
  clear hst; intro a hst
  refine wpList_nil ?_
  refine then_n ?_
  refine wp_seq ?_
  refine wp_region_lit ?_
  refine l_op rfl (r_move hst rfl rfl ?_)
  clear hst; intro a hst
  refine l_op rfl (r_build (ps := [(1, (Operand.tmp 5))]) hst Tso50 Tz50 (.cons Tf50_1 rfl rfl (.there (.here (.nil (Nat.zero_le _)))) (.nil)) rfl ?_)
  clear hst; intro a hst
  refine l_op rfl (r_alloc hst Tz50 rfl ?_)
  clear hst; intro a w g2 hst
  refine l_op rfl (r_store hst rfl rfl rfl Tsz50 rfl (.head (.here (.here (.here (.here (.here (.nil (Nat.zero_le _)))))))) ?_)
  clear hst; intro w hst
  refine wpList_nil ?_
  refine then_n ?_
  refine wp_seq ?_
  refine wp_block ?_
  refine wp_seq ?_
  refine wp_region_lit ?_
  refine l_op rfl (r_move hst rfl rfl ?_)
  clear hst; intro a hst
  refine l_op rfl (r_call (xs := [(Operand.tmp 8)]) hst rfl Ten85 (iskey_c _) rfl ?_)
  clear hst; rintro a _ w U ⟨bk, rfl, hbk⟩ hst
  refine l_op rfl (r_assign hst rfl rfl ?_)
  clear hst; intro a hst
  refine wpList_nil ?_
  refine then_n ?_
  refine x_cond hst rfl (fun hc1 => ?_) (fun hc1 => ?_)
  · try simp only [n1, n2, n3, n4, n5, n6, n7, n8, n9, na, nb] at hc1
    refine wp_region_lit ?_
    refine l_op rfl (r_fieldAddr hst rfl Tf50_0 rfl ?_)
    clear hst; intro a hst
    refine l_op rfl (r_store hst rfl rfl rfl Tsz3 rfl (.head (.here (.nil (Nat.zero_le _)))) ?_)
    clear hst; intro w hst
    refine wpList_nil ?_
    refine inb_n ?_
    refine then_n ?_
    refine wp_seq ?_
    refine x_drawf (by kernel_rfl) hst (.cons_cons _ (.cons _ (.slnil))) ?_
    clear hst; intro w hS hst
    refine f_take (i := 0) hS hst (.cons_cons _ (.cons _ (.slnil))) rfl rfl rfl rfl (by kernel_rfl) (by kernel_rfl) (by kernel_rfl) (fun _ _ _ h => h) (fun _ _ _ _ hst => q_loada hst rfl Ta50 (.head _) (.cons rfl (.cons rfl (.cons rfl (.cons rfl (.cons rfl (.nil)))))) rfl) ?_
    clear hst; intro a hst
    refine f_take (i := 1) hS hst (.cons_cons _ (.cons _ (.slnil))) rfl rfl rfl rfl (by kernel_rfl) (by kernel_rfl) (by kernel_rfl) (fun _ _ _ h => h) (fun _ _ _ _ hst => q_fieldAddr hst rfl Tf50_0) ?_
    clear hst; intro a hst
    refine f_take (i := 2) hS hst (.cons_cons _ (.cons _ (.slnil))) rfl rfl rfl rfl (by kernel_rfl) (by kernel_rfl) (by kernel_rfl) (fun _ _ _ h => h) (fun _ _ _ _ hst => q_loads hst rfl Ts3 (.head _) rfl) ?_
    clear hst; intro a hst
    refine f_take (i := 3) hS hst (.cons_cons _ (.cons _ (.slnil))) rfl rfl rfl rfl (by kernel_rfl) (by kernel_rfl) (by kernel_rfl) (fun _ _ _ h => h) (fun _ _ _ _ hst => q_bin hst rfl rfl rfl rfl) ?_
    clear hst; intro a hst
    refine f_one (i := 4) (by kernel_rfl) rfl rfl (r_store hst rfl rfl rfl Tsz50 rfl (.tail (.head (.here (.here (.here (.here (.here (.nil (Nat.zero_le _))))))))) ?_)
    clear hst; intro w hst
    refine ⟨hst.kept (.cons_cons _ (.cons _ (.slnil))), ?_⟩
    refine f_take (i := 5) hS hst (.cons_cons _ (.cons _ (.slnil))) rfl rfl rfl rfl (by kernel_rfl) (by kernel_rfl) (by kernel_rfl) (fun _ _ _ h => h) (fun _ _ _ _ hst => q_assign hst rfl) ?_
    clear hst; intro a hst
    refine f_done (by kernel_rfl) ?_
    have hst := hS.back hst
    refine then_n ?_
    refine wp_ret ?_
    refine x_ret (rs := [.cell 2 50, .tmp 3]) hst rfl (.agg rfl Ta50 (.tail _ (.head _)) rfl (.tmp rfl (.nil))) ?_
    rcases hkd with ⟨_, rfl⟩ | ⟨c, hs, _, _, _⟩
    · rfl
    · exact absurd (hbk.1 (by assumption)) (by rw [hs]; simp [keys])
  try simp only [n1, n2, n3, n4, n5, n6, n7, n8, n9, na, nb] at hc1
  refine wp_seq ?_
  obtain ⟨c, hs, hc65, hc90, rfl⟩ : ∃ c : UInt8, s.toList = [c] ∧ 65 ≤ (c.toNat : Int) ∧ (c.toNat : Int) ≤ 90 ∧ kd = 3 := by
    rcases hkd with ⟨h1, _⟩ | h
    · exact absurd (hbk.2 (by rw [h1]; simp [keys])) (by simp_all)
    · exact h
  refine wp_region_lit ?_
  refine l_op rfl (r_move hst rfl rfl ?_)
  clear hst; intro a hst
  refine l_op rfl (r_call (xs := [(Operand.tmp 12)]) hst rfl Ten86 (lowerc_c _ c hs hc65 hc90) rfl ?_)
  clear hst; rintro a _ w U rfl hst
  refine l_op rfl (r_assign hst rfl rfl ?_)
  clear hst; intro a hst
  refine wpList_nil ?_
  refine then_n ?_
  refine x_cond_f hst rfl ?_
  refine wp_seq ?_
  refine wp_region_lit ?_
  refine l_op rfl (r_move hst rfl rfl ?_)
  clear hst; intro a hst
  refine l_op rfl (r_call (xs := [(Operand.tmp 16)]) hst rfl Ten87 (upperc_c _ c hs hc65 hc90) rfl ?_)
  clear hst; rintro a _ w U rfl hst
  refine l_op rfl (r_assign hst rfl rfl ?_)
  clear hst; intro a hst
  refine wpList_nil ?_
  refine then_n ?_
  refine x_cond_t hst rfl ?_
  refine wp_region_lit ?_
  refine l_op rfl (r_fieldAddr hst rfl Tf50_0 rfl ?_)
  clear hst; intro a hst
  refine l_op rfl (r_store hst rfl rfl rfl Tsz3 rfl (.head (.here (.nil (Nat.zero_le _)))) ?_)
  clear hst; intro w hst
  refine wpList_nil ?_
  refine inb_n ?_
  refine then_n ?_
  refine wp_seq ?_
  refine x_drawf (by kernel_rfl) hst (.cons_cons _ (.cons _ (.slnil))) ?_
  clear hst; intro w hS hst
  refine f_take (i := 0) hS hst (.cons_cons _ (.cons _ (.slnil))) rfl rfl rfl rfl (by kernel_rfl) (by kernel_rfl) (by kernel_rfl) (fun _ _ _ h => h) (fun _ _ _ _ hst => q_loada hst rfl Ta50 (.head _) (.cons rfl (.cons rfl (.cons rfl (.cons rfl (.cons rfl (.nil)))))) rfl) ?_
  clear hst; intro a hst
  refine f_take (i := 1) hS hst (.cons_cons _ (.cons _ (.slnil))) rfl rfl rfl rfl (by kernel_rfl) (by kernel_rfl) (by kernel_rfl) (fun _ _ _ h => h) (fun _ _ _ _ hst => q_fieldAddr hst rfl Tf50_0) ?_
  clear hst; intro a hst
  refine f_take (i := 2) hS hst (.cons_cons _ (.cons _ (.slnil))) rfl rfl rfl rfl (by kernel_rfl) (by kernel_rfl) (by kernel_rfl) (fun _ _ _ h => h) (fun _ _ _ _ hst => q_loads hst rfl Ts3 (.head _) rfl) ?_
  clear hst; intro a hst
  refine f_take (i := 3) hS hst (.cons_cons _ (.cons _ (.slnil))) rfl rfl rfl rfl (by kernel_rfl) (by kernel_rfl) (by kernel_rfl) (fun _ _ _ h => h) (fun _ _ _ _ hst => q_bin hst rfl rfl rfl rfl) ?_
  clear hst; intro a hst
  refine f_one (i := 4) (by kernel_rfl) rfl rfl (r_store hst rfl rfl rfl Tsz50 rfl (.tail (.head (.here (.here (.here (.here (.here (.nil (Nat.zero_le _))))))))) ?_)
  clear hst; intro w hst
  refine ⟨hst.kept (.cons_cons _ (.cons _ (.slnil))), ?_⟩
  refine f_take (i := 5) hS hst (.cons_cons _ (.cons _ (.slnil))) rfl rfl rfl rfl (by kernel_rfl) (by kernel_rfl) (by kernel_rfl) (fun _ _ _ h => h) (fun _ _ _ _ hst => q_assign hst rfl) ?_
  clear hst; intro a hst
  refine f_done (by kernel_rfl) ?_
  have hst := hS.back hst
  refine then_n ?_
  refine wp_ret ?_
  refine x_ret (rs := [.cell 2 50, .tmp 3]) hst rfl (.agg rfl Ta50 (.tail _ (.head _)) rfl (.tmp rfl (.nil))) ?_
  rfl

def InvWh (w0 : World) (U0 : Mk) (HX : List Blk) (RW : List Row) (F : Fact) (g : Nat) (src : ByteArray) (p ln st : Int) (T : Option Addr) (l c : Nat) (q : Int) (mz : Nat) (a : Act) (w : World) : Prop :=
  ∃ (U : Mk) (r : Int), Sta w0 U0 62 [(0, .pointer (some ⟨g, 0, none⟩)), (1, .int .i64 1), (2, .int .i64 3), (3, .bool true), (9, .int .i64 r)] (⟨g, 101, [.string src, .int .i64 p, .int .i64 ln, .int .i64 st, .slice T l c]⟩ :: HX) RW F a w U ∧ p ≤ r ∧ r ≤ q ∧ mz = (q - r).toNat

theorem while_m {g : Nat} {F : Fact} {src : ByteArray} {p ln st : Int} {T : Option Addr} {l c : Nat} {q : Int} (h0 : 0 ≤ p) (hpq : p ≤ q) (hqs : q ≤ src.size) (hs4 : src.size ≤ 4096) (hin : ∀ r : Int, p ≤ r → r < q → ∃ b : UInt8, src.toList[r.toNat]? = some b ∧ ((97 ≤ (b.toNat : Int) ∧ (b.toNat : Int) ≤ 122) ∨ (65 ≤ (b.toNat : Int) ∧ (b.toNat : Int) ≤ 90))) (hq : q = src.size ∨ src.toList[q.toNat]? = some 32) :
    MethC Tryz.prog 69 [.pointer (some ⟨g, 0, none⟩), .int .i64 1, .int .i64 3, .bool true] ⟨g, 101, [.string src, .int .i64 p, .int .i64 ln, .int .i64 st, .slice T l c]⟩ F (fun v b' => v = .string (src.extract p.toNat q.toNat) ∧ b' = ⟨g, 101, [.string src, .int .i64 p, .int .i64 ln, .int .i64 st, .slice T l c]⟩) := by
  refine m_enter (n := 62) Tryz.func69 rfl rfl (by simp) (.cons (d := 0) rfl (.cons (d := 1) rfl (.cons (d := 2) rfl (.cons (d := 3) rfl (.nil))))) ?_
  intro w0 U0 HX RW w U a hst
  have hmF := hst.mono
  refine wp_seq ?_
  refine wp_region_lit ?_
  refine l_op rfl (r_assign hst rfl rfl ?_)
  clear hst; intro a hst
  refine wpList_nil ?_
  refine then_n ?_
  refine wp_seq ?_
  refine wp_region_lit ?_
  refine l_op rfl (r_move hst rfl rfl ?_)
  clear hst; intro a hst
  refine l_op rfl (r_nilCheck hst rfl rfl ?_)
  clear hst; intro a hst
  refine l_op rfl (r_fieldAddr hst rfl Tf101_1 rfl ?_)
  clear hst; intro a hst
  refine l_op rfl (r_loads hst rfl Ts3 (.head _) rfl rfl ?_)
  clear hst; intro a hst
  refine l_op rfl (r_assign hst rfl rfl ?_)
  clear hst; intro a hst
  refine wpList_nil ?_
  refine then_n ?_
  refine wp_seq ?_
  refine wp_block ?_
  have hst := (hst.keep (ds := [0, 1, 2, 3, 9]) (.cons rfl (.cons rfl (.cons rfl (.cons rfl (.cons rfl (.nil)))))))
  refine wp_loop_ghost (InvWh w0 U0 HX RW F g src p ln st T l c q) (q - p).toNat ⟨_, _, hst, by omega, by omega, rfl⟩ ?_
  clear hst
  rintro mz a w ⟨U, r, hst, hr0, hr1, rfl⟩
  refine wp_seq ?_
  refine wp_seq ?_
  refine wp_region_lit ?_
  refine l_op rfl (r_move hst rfl rfl ?_)
  clear hst; intro a hst
  refine l_op rfl (r_move hst rfl rfl ?_)
  clear hst; intro a hst
  refine l_op rfl (r_nilCheck hst rfl rfl ?_)
  clear hst; intro a hst
  refine l_op rfl (r_fieldAddr hst rfl Tf101_0 rfl ?_)
  clear hst; intro a hst
  refine l_op rfl (r_loads hst rfl Ts9 (.head _) rfl rfl ?_)
  clear hst; intro a hst
  refine l_op rfl (r_lenstr hst rfl Tu9 rfl ?_)
  clear hst; intro a hst
  refine l_op rfl (r_bin hst rfl rfl rfl rfl rfl ?_)
  clear hst; intro a hst
  refine wpList_nil ?_
  refine then_n ?_
  refine x_cond hst rfl (fun hc1 => ?_) (fun hc1 => ?_)
  · try simp only [n1, n2, n3, n4, n5, n6, n7, n8, n9, na, nb] at hc1
    refine wp_skip ?_
    refine then_n ?_
    refine wp_block ?_
    refine wp_seq ?_
    obtain ⟨b, hb, hbl⟩ : ∃ b : UInt8, src.toList[r.toNat]? = some b ∧ ((r < q ∧ ((97 ≤ (b.toNat : Int) ∧ (b.toNat : Int) ≤ 122) ∨ (65 ≤ (b.toNat : Int) ∧ (b.toNat : Int) ≤ 90))) ∨ (r = q ∧ (b.toNat : Int) = 32)) := by
      rcases Int.lt_or_le r q with hrq | hrq
      · obtain ⟨b, h1, h2⟩ := hin r (by omega) hrq
        exact ⟨b, h1, .inl ⟨hrq, h2⟩⟩
      · rcases hq with hq | hq
        · omega
        · exact ⟨32, by rw [show r = q by omega]; exact hq, .inr ⟨by omega, by decide⟩⟩
    refine wp_region_lit ?_
    refine l_op rfl (r_move hst rfl rfl ?_)
    clear hst; intro a hst
    refine l_op rfl (r_nilCheck hst rfl rfl ?_)
    clear hst; intro a hst
    refine l_op rfl (r_fieldAddr hst rfl Tf101_0 rfl ?_)
    clear hst; intro a hst
    refine l_op rfl (r_loads hst rfl Ts9 (.head _) rfl rfl ?_)
    clear hst; intro a hst
    refine l_op rfl (r_move hst rfl rfl ?_)
    clear hst; intro a hst
    refine l_op rfl (r_indexS hst rfl rfl Tu9 (by omega) (b := b) (hb) rfl ?_)
    clear hst; intro a hst
    refine l_op rfl (r_call (xs := [(Operand.tmp 27)]) hst rfl Ten65 (cls_c _) rfl ?_)
    clear hst; rintro a _ w U ⟨kc3, rfl, hk3r, hk3a, hk3b, hk3c, hk3d, hk3e⟩ hst
    refine l_op rfl (r_assign hst rfl rfl ?_)
    clear hst; intro a hst
    refine wpList_nil ?_
    refine then_n ?_
    refine wp_seq ?_
    refine wp_seq ?_
    refine wp_region_lit ?_
    refine l_op rfl (r_move hst rfl rfl ?_)
    clear hst; intro a hst
    refine l_op rfl (r_move hst rfl rfl ?_)
    clear hst; intro a hst
    refine l_op rfl (r_bin hst rfl rfl rfl rfl rfl ?_)
    clear hst; intro a hst
    refine l_op rfl (r_move hst rfl rfl ?_)
    clear hst; intro a hst
    refine hst.split (t := 32) rfl (fun hc2 hst => ?_) (fun hc2 hst => ?_)
    · try simp only [n1, n2, n3, n4, n5, n6, n7, n8, n9, na, nb] at hc2
      refine l_off hst rfl rfl rfl (by decide) rfl rfl ?_
      clear hst; intro a hst
      refine l_off hst rfl rfl rfl (by decide) rfl rfl ?_
      clear hst; intro a hst
      refine l_off hst rfl rfl rfl (by decide) rfl rfl ?_
      clear hst; intro a hst
      refine l_op rfl (r_pick hst rfl rfl rfl ?_)
      clear hst; intro a hst
      refine l_op rfl (r_move hst rfl rfl ?_)
      clear hst; intro a hst
      refine l_on hst rfl rfl rfl (r_move hst rfl rfl ?_)
      clear hst; intro a hst
      refine l_on hst rfl rfl rfl (r_move hst rfl rfl ?_)
      clear hst; intro a hst
      refine l_on hst rfl rfl rfl (r_move hst rfl rfl ?_)
      clear hst; intro a hst
      refine l_on hst rfl rfl rfl (r_nilCheck hst rfl rfl ?_)
      clear hst; intro a hst
      refine l_on hst rfl rfl rfl (r_fieldAddr hst rfl Tf101_0 rfl ?_)
      clear hst; intro a hst
      refine l_on hst rfl rfl rfl (r_loads hst rfl Ts9 (.head _) rfl rfl ?_)
      clear hst; intro a hst
      refine l_on hst rfl rfl rfl (r_move hst rfl rfl ?_)
      clear hst; intro a hst
      refine l_on hst rfl rfl rfl (r_indexS hst rfl rfl Tu9 (by omega) (b := b) (hb) rfl ?_)
      clear hst; intro a hst
      refine l_on hst rfl rfl rfl (r_bin hst rfl rfl rfl rfl rfl ?_)
      clear hst; intro a hst
      refine l_on hst rfl rfl rfl (r_pick hst rfl rfl rfl ?_)
      clear hst; intro a hst
      refine l_on hst rfl rfl rfl (r_not hst rfl rfl ?_)
      clear hst; intro a hst
      refine l_op rfl (r_pick hst rfl rfl rfl ?_)
      clear hst; intro a hst
      refine wpList_nil ?_
      refine then_n ?_
      refine x_cond hst rfl (fun hc3 => ?_) (fun hc3 => ?_)
      · try simp only [n1, n2, n3, n4, n5, n6, n7, n8, n9, na, nb] at hc3
        refine wp_exit ?_
        refine then_x ?_
        refine inb_miss (by decide) ?_
        refine then_x ?_
        refine inb_hit ?_
        refine then_n ?_
        refine wp_seq ?_
        refine x_drawf (by kernel_rfl) hst (.cons_cons _ (List.nil_sublist _)) ?_
        clear hst; intro w hS hst
        refine f_take (i := 0) hS hst (.cons_cons _ (List.nil_sublist _)) rfl rfl rfl rfl (by kernel_rfl) (by kernel_rfl) (by kernel_rfl) (fun _ _ _ h => h) (fun _ _ _ _ hst => q_move hst rfl) ?_
        clear hst; intro a hst
        refine f_take (i := 1) hS hst (.cons_cons _ (List.nil_sublist _)) rfl rfl rfl rfl (by kernel_rfl) (by kernel_rfl) (by kernel_rfl) (fun _ _ _ h => h) (fun _ _ _ _ hst => q_nilCheck hst rfl) ?_
        clear hst; intro a hst
        refine f_take (i := 2) hS hst (.cons_cons _ (List.nil_sublist _)) rfl rfl rfl rfl (by kernel_rfl) (by kernel_rfl) (by kernel_rfl) (fun _ _ _ h => h) (fun _ _ _ _ hst => q_fieldAddr hst rfl Tf101_0) ?_
        clear hst; intro a hst
        refine f_take (i := 3) hS hst (.cons_cons _ (List.nil_sublist _)) rfl rfl rfl rfl (by kernel_rfl) (by kernel_rfl) (by kernel_rfl) (fun _ _ _ h => h) (fun _ _ _ _ hst => q_loads hst rfl Ts9 (.head _) rfl) ?_
        clear hst; intro a hst
        refine f_take (i := 4) hS hst (.cons_cons _ (List.nil_sublist _)) rfl rfl rfl rfl (by kernel_rfl) (by kernel_rfl) (by kernel_rfl) (fun _ _ _ h => h) (fun _ _ _ _ hst => q_move hst rfl) ?_
        clear hst; intro a hst
        refine f_take (i := 5) hS hst (.cons_cons _ (List.nil_sublist _)) rfl rfl rfl rfl (by kernel_rfl) (by kernel_rfl) (by kernel_rfl) (fun _ _ _ h => h) (fun _ _ _ _ hst => q_nilCheck hst rfl) ?_
        clear hst; intro a hst
        refine f_take (i := 6) hS hst (.cons_cons _ (List.nil_sublist _)) rfl rfl rfl rfl (by kernel_rfl) (by kernel_rfl) (by kernel_rfl) (fun _ _ _ h => h) (fun _ _ _ _ hst => q_fieldAddr hst rfl Tf101_1) ?_
        clear hst; intro a hst
        refine f_take (i := 7) hS hst (.cons_cons _ (List.nil_sublist _)) rfl rfl rfl rfl (by kernel_rfl) (by kernel_rfl) (by kernel_rfl) (fun _ _ _ h => h) (fun _ _ _ _ hst => q_loads hst rfl Ts3 (.head _) rfl) ?_
        clear hst; intro a hst
        refine f_take (i := 8) hS hst (.cons_cons _ (List.nil_sublist _)) rfl rfl rfl rfl (by kernel_rfl) (by kernel_rfl) (by kernel_rfl) (fun _ _ _ h => h) (fun _ _ _ _ hst => q_move hst rfl) ?_
        clear hst; intro a hst
        refine f_take (i := 9) hS hst (.cons_cons _ (List.nil_sublist _)) rfl rfl rfl rfl (by kernel_rfl) (by kernel_rfl) (by kernel_rfl) (fun _ _ _ h => h) (fun _ _ _ _ hst => q_substr hst rfl rfl rfl Tu9 (by omega) (by omega) (by omega)) ?_
        clear hst; intro a hst
        refine f_take (i := 10) hS hst (.cons_cons _ (List.nil_sublist _)) rfl rfl rfl rfl (by kernel_rfl) (by kernel_rfl) (by kernel_rfl) (fun _ _ _ h => h) (fun _ _ _ _ hst => q_assign hst rfl) ?_
        clear hst; intro a hst
        refine f_done (by kernel_rfl) ?_
        have hst := hS.back hst
        refine then_n ?_
        refine wp_ret ?_
        refine m_ret (rs := [.tmp 8]) hst rfl (.tmp rfl (.nil)) ⟨_, (.cons_cons _ (List.Sublist.refl _)), rfl, ?_⟩
        exact ⟨by rw [show r = q by omega]; rfl, rfl⟩
      try simp only [n1, n2, n3, n4, n5, n6, n7, n8, n9, na, nb] at hc3
      refine wp_skip ?_
      refine then_n ?_
      refine wp_region_lit ?_
      refine l_op rfl (r_move hst rfl rfl ?_)
      clear hst; intro a hst
      refine l_op rfl (r_bin hst rfl rfl rfl rfl rfl ?_)
      clear hst; intro a hst
      rw [wrap_in _ (by omega) (by omega)] at hst
      refine l_op rfl (r_assign hst rfl rfl ?_)
      clear hst; intro a hst
      refine wpList_nil ?_
      refine inb_n ?_
      have hst := (hst.keep (ds := [0, 1, 2, 3, 9]) (.cons rfl (.cons rfl (.cons rfl (.cons rfl (.cons rfl (.nil)))))))
      exact then_k ⟨_, by omega, _, _, hst, by omega, by omega, rfl⟩
    try simp only [n1, n2, n3, n4, n5, n6, n7, n8, n9, na, nb] at hc2
    refine l_on hst rfl rfl rfl (r_move hst rfl rfl ?_)
    clear hst; intro a hst
    refine l_on hst rfl rfl rfl (r_move hst rfl rfl ?_)
    clear hst; intro a hst
    refine l_on hst rfl rfl rfl (r_bin hst rfl rfl rfl rfl rfl ?_)
    clear hst; intro a hst
    refine l_op rfl (r_pick hst rfl rfl rfl ?_)
    clear hst; intro a hst
    refine l_op rfl (r_move hst rfl rfl ?_)
    clear hst; intro a hst
    refine hst.split (t := 37) rfl (fun hc4 hst => ?_) (fun hc4 hst => ?_)
    · try simp only [n1, n2, n3, n4, n5, n6, n7, n8, n9, na, nb] at hc4
      refine l_on hst rfl rfl rfl (r_move hst rfl rfl ?_)
      clear hst; intro a hst
      refine l_on hst rfl rfl rfl (r_move hst rfl rfl ?_)
      clear hst; intro a hst
      refine l_on hst rfl rfl rfl (r_move hst rfl rfl ?_)
      clear hst; intro a hst
      refine l_on hst rfl rfl rfl (r_nilCheck hst rfl rfl ?_)
      clear hst; intro a hst
      refine l_on hst rfl rfl rfl (r_fieldAddr hst rfl Tf101_0 rfl ?_)
      clear hst; intro a hst
      refine l_on hst rfl rfl rfl (r_loads hst rfl Ts9 (.head _) rfl rfl ?_)
      clear hst; intro a hst
      refine l_on hst rfl rfl rfl (r_move hst rfl rfl ?_)
      clear hst; intro a hst
      refine l_on hst rfl rfl rfl (r_indexS hst rfl rfl Tu9 (by omega) (b := b) (hb) rfl ?_)
      clear hst; intro a hst
      refine l_on hst rfl rfl rfl (r_bin hst rfl rfl rfl rfl rfl ?_)
      clear hst; intro a hst
      refine l_on hst rfl rfl rfl (r_pick hst rfl rfl rfl ?_)
      clear hst; intro a hst
      refine l_on hst rfl rfl rfl (r_not hst rfl rfl ?_)
      clear hst; intro a hst
      refine l_op rfl (r_pick hst rfl rfl rfl ?_)
      clear hst; intro a hst
      refine wpList_nil ?_
      refine then_n ?_
      refine x_cond hst rfl (fun hc5 => ?_) (fun hc5 => ?_)
      · try simp only [n1, n2, n3, n4, n5, n6, n7, n8, n9, na, nb] at hc5
        refine wp_exit ?_
        refine then_x ?_
        refine inb_miss (by decide) ?_
        refine then_x ?_
        refine inb_hit ?_
        refine then_n ?_
        refine wp_seq ?_
        refine x_drawf (by kernel_rfl) hst (.cons_cons _ (List.nil_sublist _)) ?_
        clear hst; intro w hS hst
        refine f_take (i := 0) hS hst (.cons_cons _ (List.nil_sublist _)) rfl rfl rfl rfl (by kernel_rfl) (by kernel_rfl) (by kernel_rfl) (fun _ _ _ h => h) (fun _ _ _ _ hst => q_move hst rfl) ?_
        clear hst; intro a hst
        refine f_take (i := 1) hS hst (.cons_cons _ (List.nil_sublist _)) rfl rfl rfl rfl (by kernel_rfl) (by kernel_rfl) (by kernel_rfl) (fun _ _ _ h => h) (fun _ _ _ _ hst => q_nilCheck hst rfl) ?_
        clear hst; intro a hst
        refine f_take (i := 2) hS hst (.cons_cons _ (List.nil_sublist _)) rfl rfl rfl rfl (by kernel_rfl) (by kernel_rfl) (by kernel_rfl) (fun _ _ _ h => h) (fun _ _ _ _ hst => q_fieldAddr hst rfl Tf101_0) ?_
        clear hst; intro a hst
        refine f_take (i := 3) hS hst (.cons_cons _ (List.nil_sublist _)) rfl rfl rfl rfl (by kernel_rfl) (by kernel_rfl) (by kernel_rfl) (fun _ _ _ h => h) (fun _ _ _ _ hst => q_loads hst rfl Ts9 (.head _) rfl) ?_
        clear hst; intro a hst
        refine f_take (i := 4) hS hst (.cons_cons _ (List.nil_sublist _)) rfl rfl rfl rfl (by kernel_rfl) (by kernel_rfl) (by kernel_rfl) (fun _ _ _ h => h) (fun _ _ _ _ hst => q_move hst rfl) ?_
        clear hst; intro a hst
        refine f_take (i := 5) hS hst (.cons_cons _ (List.nil_sublist _)) rfl rfl rfl rfl (by kernel_rfl) (by kernel_rfl) (by kernel_rfl) (fun _ _ _ h => h) (fun _ _ _ _ hst => q_nilCheck hst rfl) ?_
        clear hst; intro a hst
        refine f_take (i := 6) hS hst (.cons_cons _ (List.nil_sublist _)) rfl rfl rfl rfl (by kernel_rfl) (by kernel_rfl) (by kernel_rfl) (fun _ _ _ h => h) (fun _ _ _ _ hst => q_fieldAddr hst rfl Tf101_1) ?_
        clear hst; intro a hst
        refine f_take (i := 7) hS hst (.cons_cons _ (List.nil_sublist _)) rfl rfl rfl rfl (by kernel_rfl) (by kernel_rfl) (by kernel_rfl) (fun _ _ _ h => h) (fun _ _ _ _ hst => q_loads hst rfl Ts3 (.head _) rfl) ?_
        clear hst; intro a hst
        refine f_take (i := 8) hS hst (.cons_cons _ (List.nil_sublist _)) rfl rfl rfl rfl (by kernel_rfl) (by kernel_rfl) (by kernel_rfl) (fun _ _ _ h => h) (fun _ _ _ _ hst => q_move hst rfl) ?_
        clear hst; intro a hst
        refine f_take (i := 9) hS hst (.cons_cons _ (List.nil_sublist _)) rfl rfl rfl rfl (by kernel_rfl) (by kernel_rfl) (by kernel_rfl) (fun _ _ _ h => h) (fun _ _ _ _ hst => q_substr hst rfl rfl rfl Tu9 (by omega) (by omega) (by omega)) ?_
        clear hst; intro a hst
        refine f_take (i := 10) hS hst (.cons_cons _ (List.nil_sublist _)) rfl rfl rfl rfl (by kernel_rfl) (by kernel_rfl) (by kernel_rfl) (fun _ _ _ h => h) (fun _ _ _ _ hst => q_assign hst rfl) ?_
        clear hst; intro a hst
        refine f_done (by kernel_rfl) ?_
        have hst := hS.back hst
        refine then_n ?_
        refine wp_ret ?_
        refine m_ret (rs := [.tmp 8]) hst rfl (.tmp rfl (.nil)) ⟨_, (.cons_cons _ (List.Sublist.refl _)), rfl, ?_⟩
        exact ⟨by rw [show r = q by omega]; rfl, rfl⟩
      try simp only [n1, n2, n3, n4, n5, n6, n7, n8, n9, na, nb] at hc5
      refine wp_skip ?_
      refine then_n ?_
      refine wp_region_lit ?_
      refine l_op rfl (r_move hst rfl rfl ?_)
      clear hst; intro a hst
      refine l_op rfl (r_bin hst rfl rfl rfl rfl rfl ?_)
      clear hst; intro a hst
      rw [wrap_in _ (by omega) (by omega)] at hst
      refine l_op rfl (r_assign hst rfl rfl ?_)
      clear hst; intro a hst
      refine wpList_nil ?_
      refine inb_n ?_
      have hst := (hst.keep (ds := [0, 1, 2, 3, 9]) (.cons rfl (.cons rfl (.cons rfl (.cons rfl (.cons rfl (.nil)))))))
      exact then_k ⟨_, by omega, _, _, hst, by omega, by omega, rfl⟩
    try simp only [n1, n2, n3, n4, n5, n6, n7, n8, n9, na, nb] at hc4
    refine l_off hst rfl rfl rfl (by decide) rfl rfl ?_
    clear hst; intro a hst
    refine l_off hst rfl rfl rfl (by decide) rfl rfl ?_
    clear hst; intro a hst
    refine l_undef hst rfl rfl rfl rfl rfl ?_
    clear hst; intro a hst
    refine l_undef hst rfl rfl rfl rfl rfl ?_
    clear hst; intro a hst
    refine l_undef hst rfl rfl rfl rfl rfl ?_
    clear hst; intro a hst
    refine l_undef hst rfl rfl rfl rfl rfl ?_
    clear hst; intro a hst
    refine l_undef hst rfl rfl rfl rfl rfl ?_
    clear hst; intro a hst
    refine l_undef hst rfl rfl rfl rfl rfl ?_
    clear hst; intro a hst
    refine l_undef hst rfl rfl rfl rfl rfl ?_
    clear hst; intro a hst
    refine l_off hst rfl rfl rfl (by decide) rfl rfl ?_
    clear hst; intro a hst
    refine l_off hst rfl rfl rfl (by decide) rfl rfl ?_
    clear hst; intro a hst
    refine l_op rfl (r_pick hst rfl rfl rfl ?_)
    clear hst; intro a hst
    refine wpList_nil ?_
    refine then_n ?_
    refine x_cond_f hst rfl ?_
    refine wp_skip ?_
    refine then_n ?_
    refine wp_region_lit ?_
    refine l_op rfl (r_move hst rfl rfl ?_)
    clear hst; intro a hst
    refine l_op rfl (r_bin hst rfl rfl rfl rfl rfl ?_)
    clear hst; intro a hst
    rw [wrap_in _ (by omega) (by omega)] at hst
    refine l_op rfl (r_assign hst rfl rfl ?_)
    clear hst; intro a hst
    refine wpList_nil ?_
    refine inb_n ?_
    have hst := (hst.keep (ds := [0, 1, 2, 3, 9]) (.cons rfl (.cons rfl (.cons rfl (.cons rfl (.cons rfl (.nil)))))))
    exact then_k ⟨_, by omega, _, _, hst, by omega, by omega, rfl⟩
  try simp only [n1, n2, n3, n4, n5, n6, n7, n8, n9, na, nb] at hc1
  refine wp_exit ?_
  refine then_x ?_
  refine then_x ?_
  refine inb_hit ?_
  refine then_n ?_
  refine wp_seq ?_
  refine x_drawf (by kernel_rfl) hst (.cons_cons _ (List.nil_sublist _)) ?_
  clear hst; intro w hS hst
  refine f_take (i := 0) hS hst (.cons_cons _ (List.nil_sublist _)) rfl rfl rfl rfl (by kernel_rfl) (by kernel_rfl) (by kernel_rfl) (fun _ _ _ h => h) (fun _ _ _ _ hst => q_move hst rfl) ?_
  clear hst; intro a hst
  refine f_take (i := 1) hS hst (.cons_cons _ (List.nil_sublist _)) rfl rfl rfl rfl (by kernel_rfl) (by kernel_rfl) (by kernel_rfl) (fun _ _ _ h => h) (fun _ _ _ _ hst => q_nilCheck hst rfl) ?_
  clear hst; intro a hst
  refine f_take (i := 2) hS hst (.cons_cons _ (List.nil_sublist _)) rfl rfl rfl rfl (by kernel_rfl) (by kernel_rfl) (by kernel_rfl) (fun _ _ _ h => h) (fun _ _ _ _ hst => q_fieldAddr hst rfl Tf101_0) ?_
  clear hst; intro a hst
  refine f_take (i := 3) hS hst (.cons_cons _ (List.nil_sublist _)) rfl rfl rfl rfl (by kernel_rfl) (by kernel_rfl) (by kernel_rfl) (fun _ _ _ h => h) (fun _ _ _ _ hst => q_loads hst rfl Ts9 (.head _) rfl) ?_
  clear hst; intro a hst
  refine f_take (i := 4) hS hst (.cons_cons _ (List.nil_sublist _)) rfl rfl rfl rfl (by kernel_rfl) (by kernel_rfl) (by kernel_rfl) (fun _ _ _ h => h) (fun _ _ _ _ hst => q_move hst rfl) ?_
  clear hst; intro a hst
  refine f_take (i := 5) hS hst (.cons_cons _ (List.nil_sublist _)) rfl rfl rfl rfl (by kernel_rfl) (by kernel_rfl) (by kernel_rfl) (fun _ _ _ h => h) (fun _ _ _ _ hst => q_nilCheck hst rfl) ?_
  clear hst; intro a hst
  refine f_take (i := 6) hS hst (.cons_cons _ (List.nil_sublist _)) rfl rfl rfl rfl (by kernel_rfl) (by kernel_rfl) (by kernel_rfl) (fun _ _ _ h => h) (fun _ _ _ _ hst => q_fieldAddr hst rfl Tf101_1) ?_
  clear hst; intro a hst
  refine f_take (i := 7) hS hst (.cons_cons _ (List.nil_sublist _)) rfl rfl rfl rfl (by kernel_rfl) (by kernel_rfl) (by kernel_rfl) (fun _ _ _ h => h) (fun _ _ _ _ hst => q_loads hst rfl Ts3 (.head _) rfl) ?_
  clear hst; intro a hst
  refine f_take (i := 8) hS hst (.cons_cons _ (List.nil_sublist _)) rfl rfl rfl rfl (by kernel_rfl) (by kernel_rfl) (by kernel_rfl) (fun _ _ _ h => h) (fun _ _ _ _ hst => q_move hst rfl) ?_
  clear hst; intro a hst
  refine f_take (i := 9) hS hst (.cons_cons _ (List.nil_sublist _)) rfl rfl rfl rfl (by kernel_rfl) (by kernel_rfl) (by kernel_rfl) (fun _ _ _ h => h) (fun _ _ _ _ hst => q_substr hst rfl rfl rfl Tu9 (by omega) (by omega) (by omega)) ?_
  clear hst; intro a hst
  refine f_take (i := 10) hS hst (.cons_cons _ (List.nil_sublist _)) rfl rfl rfl rfl (by kernel_rfl) (by kernel_rfl) (by kernel_rfl) (fun _ _ _ h => h) (fun _ _ _ _ hst => q_assign hst rfl) ?_
  clear hst; intro a hst
  refine f_done (by kernel_rfl) ?_
  have hst := hS.back hst
  refine then_n ?_
  refine wp_ret ?_
  refine m_ret (rs := [.tmp 8]) hst rfl (.tmp rfl (.nil)) ⟨_, (.cons_cons _ (List.Sublist.refl _)), rfl, ?_⟩
  exact ⟨by rw [show r = q by omega]; rfl, rfl⟩

theorem at_m {g : Nat} {F : Fact} {src : ByteArray} {p ln st : Int} {T : Option Addr} {l c : Nat} (h0 : 0 ≤ p) (hp : p ≤ 4096) (hst0 : 0 ≤ st) (hst1 : st ≤ p) :
    MethC Tryz.prog 49 [.pointer (some ⟨g, 0, none⟩)] ⟨g, 101, [.string src, .int .i64 p, .int .i64 ln, .int .i64 st, .slice T l c]⟩ F (fun v b' => v = .agg #[.int .i64 ln, .int .i64 (p - st + 1)] ∧ b' = ⟨g, 101, [.string src, .int .i64 p, .int .i64 ln, .int .i64 st, .slice T l c]⟩) := by
  refine m_enter (n := 18) Tryz.func49 rfl rfl (by simp) (.cons (d := 0) rfl (.nil)) ?_
  intro w0 U0 HX RW w U a hst
  have hmF := hst.mono
  refine wp_seq ?_
  refine wp_region_lit ?_
  refine l_op rfl (r_alloc hst Tz28 rfl ?_)
  clear hst; intro a w g1 hst
  refine wpList_nil ?_
  refine then_n ?_
  refine wp_seq ?_
  refine x_drawf (by kernel_rfl) hst (.cons _ (.cons_cons _ (List.nil_sublist _))) ?_
  clear hst; intro w hS hst
  refine f_take (i := 0) hS hst (.cons _ (.cons_cons _ (List.nil_sublist _))) rfl rfl rfl rfl (by kernel_rfl) (by kernel_rfl) (by kernel_rfl) (fun _ _ _ h => h) (fun _ _ _ _ hst => q_move hst rfl) ?_
  clear hst; intro a hst
  refine f_take (i := 1) hS hst (.cons _ (.cons_cons _ (List.nil_sublist _))) rfl rfl rfl rfl (by kernel_rfl) (by kernel_rfl) (by kernel_rfl) (fun _ _ _ h => h) (fun _ _ _ _ hst => q_nilCheck hst rfl) ?_
  clear hst; intro a hst
  refine f_take (i := 2) hS hst (.cons _ (.cons_cons _ (List.nil_sublist _))) rfl rfl rfl rfl (by kernel_rfl) (by kernel_rfl) (by kernel_rfl) (fun _ _ _ h => h) (fun _ _ _ _ hst => q_fieldAddr hst rfl Tf101_2) ?_
  clear hst; intro a hst
  refine f_take (i := 3) hS hst (.cons _ (.cons_cons _ (List.nil_sublist _))) rfl rfl rfl rfl (by kernel_rfl) (by kernel_rfl) (by kernel_rfl) (fun _ _ _ h => h) (fun _ _ _ _ hst => q_loads hst rfl Ts3 (.head _) rfl) ?_
  clear hst; intro a hst
  refine f_take (i := 4) hS hst (.cons _ (.cons_cons _ (List.nil_sublist _))) rfl rfl rfl rfl (by kernel_rfl) (by kernel_rfl) (by kernel_rfl) (fun _ _ _ h => h) (fun _ _ _ _ hst => q_move hst rfl) ?_
  clear hst; intro a hst
  refine f_take (i := 5) hS hst (.cons _ (.cons_cons _ (List.nil_sublist _))) rfl rfl rfl rfl (by kernel_rfl) (by kernel_rfl) (by kernel_rfl) (fun _ _ _ h => h) (fun _ _ _ _ hst => q_nilCheck hst rfl) ?_
  clear hst; intro a hst
  refine f_take (i := 6) hS hst (.cons _ (.cons_cons _ (List.nil_sublist _))) rfl rfl rfl rfl (by kernel_rfl) (by kernel_rfl) (by kernel_rfl) (fun _ _ _ h => h) (fun _ _ _ _ hst => q_fieldAddr hst rfl Tf101_1) ?_
  clear hst; intro a hst
  refine f_take (i := 7) hS hst (.cons _ (.cons_cons _ (List.nil_sublist _))) rfl rfl rfl rfl (by kernel_rfl) (by kernel_rfl) (by kernel_rfl) (fun _ _ _ h => h) (fun _ _ _ _ hst => q_loads hst rfl Ts3 (.head _) rfl) ?_
  clear hst; intro a hst
  refine f_take (i := 8) hS hst (.cons _ (.cons_cons _ (List.nil_sublist _))) rfl rfl rfl rfl (by kernel_rfl) (by kernel_rfl) (by kernel_rfl) (fun _ _ _ h => h) (fun _ _ _ _ hst => q_move hst rfl) ?_
  clear hst; intro a hst
  refine f_take (i := 9) hS hst (.cons _ (.cons_cons _ (List.nil_sublist _))) rfl rfl rfl rfl (by kernel_rfl) (by kernel_rfl) (by kernel_rfl) (fun _ _ _ h => h) (fun _ _ _ _ hst => q_nilCheck hst rfl) ?_
  clear hst; intro a hst
  refine f_take (i := 10) hS hst (.cons _ (.cons_cons _ (List.nil_sublist _))) rfl rfl rfl rfl (by kernel_rfl) (by kernel_rfl) (by kernel_rfl) (fun _ _ _ h => h) (fun _ _ _ _ hst => q_fieldAddr hst rfl Tf101_3) ?_
  clear hst; intro a hst
  refine f_take (i := 11) hS hst (.cons _ (.cons_cons _ (List.nil_sublist _))) rfl rfl rfl rfl (by kernel_rfl) (by kernel_rfl) (by kernel_rfl) (fun _ _ _ h => h) (fun _ _ _ _ hst => q_loads hst rfl Ts3 (.head _) rfl) ?_
  clear hst; intro a hst
  refine f_take (i := 12) hS hst (.cons _ (.cons_cons _ (List.nil_sublist _))) rfl rfl rfl rfl (by kernel_rfl) (by kernel_rfl) (by kernel_rfl) (fun _ _ _ h => h) (fun _ _ _ _ hst => q_bin hst rfl rfl rfl rfl) ?_
  clear hst; intro a hst
  rw [wrap_in _ (by omega) (by omega)] at hst
  refine f_take (i := 13) hS hst (.cons _ (.cons_cons _ (List.nil_sublist _))) rfl rfl rfl rfl (by kernel_rfl) (by kernel_rfl) (by kernel_rfl) (fun _ _ _ h => h) (fun _ _ _ _ hst => q_bin hst rfl rfl rfl rfl) ?_
  clear hst; intro a hst
  rw [wrap_in _ (by omega) (by omega)] at hst
  refine f_take (i := 14) hS hst (.cons _ (.cons_cons _ (List.nil_sublist _))) rfl rfl rfl rfl (by kernel_rfl) (by kernel_rfl) (by kernel_rfl) (fun _ _ _ h => h) (fun _ _ _ _ hst => q_build (ps := [(0, (Operand.tmp 6)), (1, (Operand.tmp 16))]) hst Tso28 Tz28 (.cons Tf28_0 rfl rfl (.here (.nil (Nat.zero_le _))) (.cons Tf28_1 rfl rfl (.there (.here (.nil (Nat.zero_le _)))) (.nil)))) ?_
  clear hst; intro a hst
  refine f_one (i := 15) (by kernel_rfl) rfl rfl (r_store hst rfl rfl rfl Tsz28 rfl (.head (.here (.here (.nil (Nat.zero_le _))))) ?_)
  clear hst; intro w hst
  refine ⟨hst.kept (.cons _ (.cons_cons _ (List.nil_sublist _))), ?_⟩
  refine f_done (by kernel_rfl) ?_
  have hst := hS.back hst
  refine then_n ?_
  refine wp_ret ?_
  refine m_ret (rs := [.cell 2 28]) hst rfl (.agg rfl Ta28 (.head _) rfl (.nil)) ⟨_, (.cons _ (.cons_cons _ (List.Sublist.refl _))), rfl, ?_⟩
  exact ⟨rfl, rfl⟩

theorem tokword_m {g : Nat} {F : Fact} {src : ByteArray} {p ln st : Int} {T : Option Addr} {l c : Nat} {q kd : Int} {tx : List UInt8} (h0 : 0 ≤ p) (hpq : p ≤ q) (hqs : q ≤ src.size) (hs4 : src.size ≤ 4096) (hin : ∀ r : Int, p ≤ r → r < q → ∃ b : UInt8, src.toList[r.toNat]? = some b ∧ ((97 ≤ (b.toNat : Int) ∧ (b.toNat : Int) ≤ 122) ∨ (65 ≤ (b.toNat : Int) ∧ (b.toNat : Int) ≤ 90))) (hq : q = src.size ∨ src.toList[q.toNat]? = some 32) (hlt : p < q) (htx : (src.extract p.toNat q.toNat).toList = tx) (hkd : ((src.extract p.toNat q.toNat).toList = [100, 97, 116, 97] ∧ kd = 5) ∨ ∃ c : UInt8, (src.extract p.toNat q.toNat).toList = [c] ∧ 65 ≤ (c.toNat : Int) ∧ (c.toNat : Int) ≤ 90 ∧ kd = 3) :
    MethC Tryz.prog 48 [.pointer (some ⟨g, 0, none⟩)] ⟨g, 101, [.string src, .int .i64 p, .int .i64 ln, .int .i64 st, .slice T l c]⟩ F (fun v b' => (∃ t : ByteArray, v = .tuple #[.agg #[.int .i64 kd, .string t, .int .i64 0, .int .i64 0, .int .i64 0], .bool true] ∧ t.toList = tx) ∧ b' = ⟨g, 101, [.string src, .int .i64 p, .int .i64 ln, .int .i64 st, .slice T l c]⟩) := by
  refine m_enter (n := 61) Tryz.func48 rfl rfl (by simp) (.cons (d := 0) rfl (.nil)) ?_
  intro w0 U0 HX RW w U a hst
  have hmF := hst.mono
  refine wp_seq ?_
  refine wp_region_lit ?_
  refine l_op rfl (r_alloc hst Tz50 rfl ?_)
  clear hst; intro a w g1 hst
  refine l_op rfl (r_assign hst rfl rfl ?_)
  clear hst; intro a hst
  refine wpList_nil ?_
  refine then_n ?_
  refine wp_seq ?_
  refine wp_seq ?_
  obtain ⟨b, hb, hbl⟩ := hin p (by omega) hlt
  refine x_drawf (by kernel_rfl) hst (.cons _ (.cons_cons _ (List.nil_sublist _))) ?_
  clear hst; intro w hS hst
  refine f_take (i := 0) hS hst (.cons _ (.cons_cons _ (List.nil_sublist _))) rfl rfl rfl rfl (by kernel_rfl) (by kernel_rfl) (by kernel_rfl) (fun _ _ _ h => h) (fun _ _ _ _ hst => q_move hst rfl) ?_
  clear hst; intro a hst
  refine f_take (i := 1) hS hst (.cons _ (.cons_cons _ (List.nil_sublist _))) rfl rfl rfl rfl (by kernel_rfl) (by kernel_rfl) (by kernel_rfl) (fun _ _ _ h => h) (fun _ _ _ _ hst => q_nilCheck hst rfl) ?_
  clear hst; intro a hst
  refine f_take (i := 2) hS hst (.cons _ (.cons_cons _ (List.nil_sublist _))) rfl rfl rfl rfl (by kernel_rfl) (by kernel_rfl) (by kernel_rfl) (fun _ _ _ h => h) (fun _ _ _ _ hst => q_fieldAddr hst rfl Tf101_0) ?_
  clear hst; intro a hst
  refine f_take (i := 3) hS hst (.cons _ (.cons_cons _ (List.nil_sublist _))) rfl rfl rfl rfl (by kernel_rfl) (by kernel_rfl) (by kernel_rfl) (fun _ _ _ h => h) (fun _ _ _ _ hst => q_loads hst rfl Ts9 (.head _) rfl) ?_
  clear hst; intro a hst
  refine f_take (i := 4) hS hst (.cons _ (.cons_cons _ (List.nil_sublist _))) rfl rfl rfl rfl (by kernel_rfl) (by kernel_rfl) (by kernel_rfl) (fun _ _ _ h => h) (fun _ _ _ _ hst => q_move hst rfl) ?_
  clear hst; intro a hst
  refine f_take (i := 5) hS hst (.cons _ (.cons_cons _ (List.nil_sublist _))) rfl rfl rfl rfl (by kernel_rfl) (by kernel_rfl) (by kernel_rfl) (fun _ _ _ h => h) (fun _ _ _ _ hst => q_nilCheck hst rfl) ?_
  clear hst; intro a hst
  refine f_take (i := 6) hS hst (.cons _ (.cons_cons _ (List.nil_sublist _))) rfl rfl rfl rfl (by kernel_rfl) (by kernel_rfl) (by kernel_rfl) (fun _ _ _ h => h) (fun _ _ _ _ hst => q_fieldAddr hst rfl Tf101_1) ?_
  clear hst; intro a hst
  refine f_take (i := 7) hS hst (.cons _ (.cons_cons _ (List.nil_sublist _))) rfl rfl rfl rfl (by kernel_rfl) (by kernel_rfl) (by kernel_rfl) (fun _ _ _ h => h) (fun _ _ _ _ hst => q_loads hst rfl Ts3 (.head _) rfl) ?_
  clear hst; intro a hst
  refine f_take (i := 8) hS hst (.cons _ (.cons_cons _ (List.nil_sublist _))) rfl rfl rfl rfl (by kernel_rfl) (by kernel_rfl) (by kernel_rfl) (fun _ _ _ h => h) (fun _ _ _ _ hst => q_indexS hst rfl rfl Tu9 (by omega) (b := b) (hb)) ?_
  clear hst; intro a hst
  refine f_one (i := 9) (by kernel_rfl) rfl rfl (r_call (xs := [(Operand.tmp 17)]) hst rfl Ten65 (cls_c _) rfl ?_)
  clear hst; rintro a _ w U ⟨kc4, rfl, hk4r, hk4a, hk4b, hk4c, hk4d, hk4e⟩ hst
  refine ⟨hst.kept (.cons _ (.cons_cons _ (List.nil_sublist _))), ?_⟩
  refine f_done (by kernel_rfl) ?_
  have hst := hS.back hst
  refine then_n ?_
  refine wp_block ?_
  refine wp_seq ?_
  refine wp_seq ?_
  refine wp_region_lit ?_
  refine l_op rfl (r_bin hst rfl rfl rfl rfl rfl ?_)
  clear hst; intro a hst
  refine l_op rfl (r_assign hst rfl rfl ?_)
  clear hst; intro a hst
  refine wpList_nil ?_
  refine then_n ?_
  refine x_cond hst rfl (fun hc1 => ?_) (fun hc1 => ?_)
  · try simp only [n1, n2, n3, n4, n5, n6, n7, n8, n9, na, nb] at hc1
    refine wp_skip ?_
    refine then_n ?_
    refine x_cond hst rfl (fun hc2 => ?_) (fun hc2 => ?_)
    · try simp only [n1, n2, n3, n4, n5, n6, n7, n8, n9, na, nb] at hc2
      refine wp_seq ?_
      refine wp_region_lit ?_
      refine l_op rfl (r_move hst rfl rfl ?_)
      clear hst; intro a hst
      refine l_op rfl (r_callm0 (H1 := [_]) (xs := [(Operand.tmp 22), (Operand.const (Value.int IntKind.i64 1)), (Operand.const (Value.int IntKind.i64 3)), (Operand.const (Value.bool true))]) hst rfl rfl Ten69 (while_m h0 hpq hqs hs4 hin hq) rfl ?_)
      clear hst; rintro a _ _ w U ⟨rfl, rfl⟩ hst
      simp only [List.cons_append, List.nil_append] at hst
      refine l_op rfl (r_call (xs := [(Operand.tmp 23)]) hst rfl Ten68 (tokw_c _ kd hkd) rfl ?_)
      clear hst; rintro a _ w U rfl hst
      refine l_op rfl (r_extract hst rfl rfl rfl ?_)
      clear hst; intro a hst
      refine l_op rfl (r_extract hst rfl rfl rfl ?_)
      clear hst; intro a hst
      refine l_op rfl (r_store hst rfl rfl rfl Tsz50 rfl (.head (.here (.here (.here (.here (.here (.nil (Nat.zero_le _)))))))) ?_)
      clear hst; intro w hst
      refine l_op rfl (r_assign hst rfl rfl ?_)
      clear hst; intro a hst
      refine wpList_nil ?_
      refine then_n ?_
      refine wp_ret ?_
      refine inb_r ?_
      refine then_r ?_
      refine m_ret (rs := [.cell 2 50, .tmp 3]) hst rfl (.agg rfl Ta50 (.head _) rfl (.tmp rfl (.nil))) ⟨_, (.cons _ (.cons_cons _ (List.Sublist.refl _))), rfl, ?_⟩
      exact ⟨⟨_, rfl, htx⟩, rfl⟩
    try simp only [n1, n2, n3, n4, n5, n6, n7, n8, n9, na, nb] at hc2
    refine wp_seq ?_
    omega
  try simp only [n1, n2, n3, n4, n5, n6, n7, n8, n9, na, nb] at hc1
  refine wp_region_lit ?_
  refine l_op rfl (r_bin hst rfl rfl rfl rfl rfl ?_)
  clear hst; intro a hst
  refine l_op rfl (r_assign hst rfl rfl ?_)
  clear hst; intro a hst
  refine wpList_nil ?_
  refine then_n ?_
  refine x_cond hst rfl (fun hc3 => ?_) (fun hc3 => ?_)
  · try simp only [n1, n2, n3, n4, n5, n6, n7, n8, n9, na, nb] at hc3
    refine wp_seq ?_
    refine wp_region_lit ?_
    refine l_op rfl (r_move hst rfl rfl ?_)
    clear hst; intro a hst
    refine l_op rfl (r_callm0 (H1 := [_]) (xs := [(Operand.tmp 22), (Operand.const (Value.int IntKind.i64 1)), (Operand.const (Value.int IntKind.i64 3)), (Operand.const (Value.bool true))]) hst rfl rfl Ten69 (while_m h0 hpq hqs hs4 hin hq) rfl ?_)
    clear hst; rintro a _ _ w U ⟨rfl, rfl⟩ hst
    simp only [List.cons_append, List.nil_append] at hst
    refine l_op rfl (r_call (xs := [(Operand.tmp 23)]) hst rfl Ten68 (tokw_c _ kd hkd) rfl ?_)
    clear hst; rintro a _ w U rfl hst
    refine l_op rfl (r_extract hst rfl rfl rfl ?_)
    clear hst; intro a hst
    refine l_op rfl (r_extract hst rfl rfl rfl ?_)
    clear hst; intro a hst
    refine l_op rfl (r_store hst rfl rfl rfl Tsz50 rfl (.head (.here (.here (.here (.here (.here (.nil (Nat.zero_le _)))))))) ?_)
    clear hst; intro w hst
    refine l_op rfl (r_assign hst rfl rfl ?_)
    clear hst; intro a hst
    refine wpList_nil ?_
    refine then_n ?_
    refine wp_ret ?_
    refine inb_r ?_
    refine then_r ?_
    refine m_ret (rs := [.cell 2 50, .tmp 3]) hst rfl (.agg rfl Ta50 (.head _) rfl (.tmp rfl (.nil))) ⟨_, (.cons _ (.cons_cons _ (List.Sublist.refl _))), rfl, ?_⟩
    exact ⟨⟨_, rfl, htx⟩, rfl⟩
  try simp only [n1, n2, n3, n4, n5, n6, n7, n8, n9, na, nb] at hc3
  refine wp_seq ?_
  omega

def InvSy (w0 : World) (U0 : Mk) (HX : List Blk) (RW : List Row) (F : Fact) (g g2 : Nat) (src : ByteArray) (p ln st : Int) (T : Option Addr) (l c : Nat) (b : UInt8) (Ay : Option Addr) (cy : Nat) (mz : Nat) (a : Act) (w : World) : Prop :=
  ∃ (U : Mk) (i : Int), Sta w0 U0 61 [(0, .pointer (some ⟨g, 0, none⟩)), (2, .pointer (some ⟨g2, 0, none⟩)), (3, .bool false), (40, .slice Ay 11 cy), (41, .int .i64 11), (42, .int .i64 i)] (⟨g2, 50, [.int .i64 0, .string ⟨#[]⟩, .int .i64 0, .int .i64 0, .int .i64 0]⟩ :: ⟨g, 101, [.string src, .int .i64 p, .int .i64 ln, .int .i64 st, .slice T l c]⟩ :: HX) RW (fun w U => Sl kS (.slice Ay 11 cy) syms w U ∧ F w U) a w U ∧ 0 ≤ i ∧ i ≤ 2 ∧ (i = 2 → b = 124) ∧ mz = (3 - i).toNat

theorem toksym_m {g : Nat} {F : Fact} {src : ByteArray} {p ln st : Int} {T : Option Addr} {l c : Nat} {b : UInt8} {rest : List UInt8} (h0 : 0 ≤ p) (hs4 : src.size ≤ 4096) (hd : src.toList.drop p.toNat = b :: 32 :: rest) (hb : b = 61 ∨ b = 124) :
    MethC Tryz.prog 48 [.pointer (some ⟨g, 0, none⟩)] ⟨g, 101, [.string src, .int .i64 p, .int .i64 ln, .int .i64 st, .slice T l c]⟩ F (fun v b' => (∃ t : ByteArray, v = .tuple #[.agg #[.int .i64 6, .string t, .int .i64 0, .int .i64 0, .int .i64 0], .bool true] ∧ t.toList = [b]) ∧ b' = ⟨g, 101, [.string src, .int .i64 p, .int .i64 ln, .int .i64 st, .slice T l c]⟩) := by
  refine m_enter (n := 61) Tryz.func48 rfl rfl (by simp) (.cons (d := 0) rfl (.nil)) ?_
  intro w0 U0 HX RW w U a hst
  have hmF := hst.mono
  refine wp_seq ?_
  refine wp_region_lit ?_
  refine l_op rfl (r_alloc hst Tz50 rfl ?_)
  clear hst; intro a w g1 hst
  refine l_op rfl (r_assign hst rfl rfl ?_)
  clear hst; intro a hst
  refine wpList_nil ?_
  refine then_n ?_
  refine wp_seq ?_
  refine wp_seq ?_
  have hb0 : src.toList[p.toNat]? = some b := by have := congrArg (fun l => l[0]?) hd; simpa using this
  have hbn : (b.toNat : Int) = 61 ∨ (b.toNat : Int) = 124 := by rcases hb with rfl | rfl <;> decide
  have hx : (src.extract p.toNat src.size).toList = b :: 32 :: rest := by rw [toList_extract, ← hd, List.take_of_length_le]; rw [List.length_drop, size_toList]; omega
  have hps : p < src.size := by
    have := congrArg List.length hd
    rw [List.length_drop, size_toList, List.length_cons, List.length_cons] at this
    omega
  refine x_drawf (by kernel_rfl) hst (.cons _ (.cons_cons _ (List.nil_sublist _))) ?_
  clear hst; intro w hS hst
  refine f_take (i := 0) hS hst (.cons _ (.cons_cons _ (List.nil_sublist _))) rfl rfl rfl rfl (by kernel_rfl) (by kernel_rfl) (by kernel_rfl) (fun _ _ _ h => h) (fun _ _ _ _ hst => q_move hst rfl) ?_
  clear hst; intro a hst
  refine f_take (i := 1) hS hst (.cons _ (.cons_cons _ (List.nil_sublist _))) rfl rfl rfl rfl (by kernel_rfl) (by kernel_rfl) (by kernel_rfl) (fun _ _ _ h => h) (fun _ _ _ _ hst => q_nilCheck hst rfl) ?_
  clear hst; intro a hst
  refine f_take (i := 2) hS hst (.cons _ (.cons_cons _ (List.nil_sublist _))) rfl rfl rfl rfl (by kernel_rfl) (by kernel_rfl) (by kernel_rfl) (fun _ _ _ h => h) (fun _ _ _ _ hst => q_fieldAddr hst rfl Tf101_0) ?_
  clear hst; intro a hst
  refine f_take (i := 3) hS hst (.cons _ (.cons_cons _ (List.nil_sublist _))) rfl rfl rfl rfl (by kernel_rfl) (by kernel_rfl) (by kernel_rfl) (fun _ _ _ h => h) (fun _ _ _ _ hst => q_loads hst rfl Ts9 (.head _) rfl) ?_
  clear hst; intro a hst
  refine f_take (i := 4) hS hst (.cons _ (.cons_cons _ (List.nil_sublist _))) rfl rfl rfl rfl (by kernel_rfl) (by kernel_rfl) (by kernel_rfl) (fun _ _ _ h => h) (fun _ _ _ _ hst => q_move hst rfl) ?_
  clear hst; intro a hst
  refine f_take (i := 5) hS hst (.cons _ (.cons_cons _ (List.nil_sublist _))) rfl rfl rfl rfl (by kernel_rfl) (by kernel_rfl) (by kernel_rfl) (fun _ _ _ h => h) (fun _ _ _ _ hst => q_nilCheck hst rfl) ?_
  clear hst; intro a hst
  refine f_take (i := 6) hS hst (.cons _ (.cons_cons _ (List.nil_sublist _))) rfl rfl rfl rfl (by kernel_rfl) (by kernel_rfl) (by kernel_rfl) (fun _ _ _ h => h) (fun _ _ _ _ hst => q_fieldAddr hst rfl Tf101_1) ?_
  clear hst; intro a hst
  refine f_take (i := 7) hS hst (.cons _ (.cons_cons _ (List.nil_sublist _))) rfl rfl rfl rfl (by kernel_rfl) (by kernel_rfl) (by kernel_rfl) (fun _ _ _ h => h) (fun _ _ _ _ hst => q_loads hst rfl Ts3 (.head _) rfl) ?_
  clear hst; intro a hst
  refine f_take (i := 8) hS hst (.cons _ (.cons_cons _ (List.nil_sublist _))) rfl rfl rfl rfl (by kernel_rfl) (by kernel_rfl) (by kernel_rfl) (fun _ _ _ h => h) (fun _ _ _ _ hst => q_indexS hst rfl rfl Tu9 (by omega) (b := b) (hb0)) ?_
  clear hst; intro a hst
  refine f_one (i := 9) (by kernel_rfl) rfl rfl (r_call (xs := [(Operand.tmp 17)]) hst rfl Ten65 (cls_c _) rfl ?_)
  clear hst; rintro a _ w U ⟨kc5, rfl, hk5r, hk5a, hk5b, hk5c, hk5d, hk5e⟩ hst
  refine ⟨hst.kept (.cons _ (.cons_cons _ (List.nil_sublist _))), ?_⟩
  refine f_done (by kernel_rfl) ?_
  have hst := hS.back hst
  refine then_n ?_
  refine wp_block ?_
  refine wp_seq ?_
  refine wp_seq ?_
  refine wp_region_lit ?_
  refine l_op rfl (r_bin hst rfl rfl rfl rfl rfl ?_)
  clear hst; intro a hst
  refine l_op rfl (r_assign hst rfl rfl ?_)
  clear hst; intro a hst
  refine wpList_nil ?_
  refine then_n ?_
  refine x_cond hst rfl (fun hc1 => ?_) (fun hc1 => ?_)
  · try simp only [n1, n2, n3, n4, n5, n6, n7, n8, n9, na, nb] at hc1
    refine wp_skip ?_
    refine then_n ?_
    refine x_cond hst rfl (fun hc2 => ?_) (fun hc2 => ?_)
    · try simp only [n1, n2, n3, n4, n5, n6, n7, n8, n9, na, nb] at hc2
      refine wp_seq ?_
      omega
    try simp only [n1, n2, n3, n4, n5, n6, n7, n8, n9, na, nb] at hc2
    refine wp_seq ?_
    refine wp_region_lit ?_
    refine l_op rfl (r_bin hst rfl rfl rfl rfl rfl ?_)
    clear hst; intro a hst
    refine l_op rfl (r_assign hst rfl rfl ?_)
    clear hst; intro a hst
    refine wpList_nil ?_
    refine then_n ?_
    refine x_cond hst rfl (fun hc3 => ?_) (fun hc3 => ?_)
    · try simp only [n1, n2, n3, n4, n5, n6, n7, n8, n9, na, nb] at hc3
      refine wp_seq ?_
      omega
    try simp only [n1, n2, n3, n4, n5, n6, n7, n8, n9, na, nb] at hc3
    refine wp_skip ?_
    refine inb_n ?_
    refine then_n ?_
    refine wp_seq ?_
    refine wp_seq ?_
    refine wp_region_lit ?_
    refine l_op rfl (r_call (xs := []) hst rfl Ten71 (psyms_c) rfl ?_)
    clear hst; rintro a _ w U ⟨Ay, cy, rfl, hsy⟩ hst
    have hst := hst.addFact (Sl.mono _ _ _) hsy
    refine l_op rfl (r_lensl hst rfl Tu39 rfl ?_)
    clear hst; intro a hst
    refine l_op rfl (r_move hst rfl rfl ?_)
    clear hst; intro a hst
    refine wpList_nil ?_
    refine then_n ?_
    refine wp_block ?_
    have hst := (hst.keep (ds := [0, 2, 3, 40, 41, 42]) (.cons rfl (.cons rfl (.cons rfl (.cons rfl (.cons rfl (.cons rfl (.nil))))))))
    refine wp_loop_ghost (InvSy w0 U0 HX RW F g g1 src p ln st T l c b Ay cy) 3 ⟨_, 0, hst, by omega, by omega, by omega, by omega⟩ ?_
    clear hst
    rintro mz a w ⟨U, i, hst, hi0, hi1, hi2, rfl⟩
    refine wp_seq ?_
    refine wp_region_lit ?_
    refine l_op rfl (r_bin hst rfl rfl rfl rfl rfl ?_)
    clear hst; intro a hst
    refine wpList_nil ?_
    refine then_n ?_
    refine wp_seq ?_
    refine x_cond hst rfl (fun hc4 => ?_) (fun hc4 => ?_)
    · try simp only [n1, n2, n3, n4, n5, n6, n7, n8, n9, na, nb] at hc4
      refine wp_skip ?_
      refine then_n ?_
      refine wp_seq ?_
      refine wp_block ?_
      refine wp_seq ?_
      obtain ⟨g', o, cs, t, rfl, ht, ⟨s', rfl, rfl⟩, hel⟩ := hst.fact.1.at_ i.toNat (by omega)
      have hst := hst.addFact (Eat.mono _ _ _) hel
      have hi : (i = 0 ∧ s'.toList = [61, 61]) ∨ (i = 1 ∧ s'.toList = [61]) ∨ (i = 2 ∧ s'.toList = [124]) := by
        have : i = 0 ∨ i = 1 ∨ i = 2 := by omega
        rcases this with rfl | rfl | rfl
        · exact .inl ⟨rfl, by simpa [syms] using ht.symm⟩
        · exact .inr (.inl ⟨rfl, by simpa [syms] using ht.symm⟩)
        · exact .inr (.inr ⟨rfl, by simpa [syms] using ht.symm⟩)
      refine wp_region_lit ?_
      refine l_op rfl (r_indexAddr hst rfl rfl Tu39 Tsz9 (hi0) (by omega) rfl ?_)
      clear hst; intro a hst
      refine l_op rfl (r_eats hst rfl Ts9 (hst.fact.1) (j := 0) rfl rfl rfl ?_)
      clear hst; intro a hst
      refine l_op rfl (r_assign hst rfl rfl ?_)
      clear hst; intro a hst
      refine wpList_nil ?_
      refine then_n ?_
      refine wp_seq ?_
      refine x_drawf (by kernel_rfl) hst (.cons _ (.cons_cons _ (List.nil_sublist _))) ?_
      clear hst; intro w hS hst
      refine f_take (i := 0) hS hst (.cons _ (.cons_cons _ (List.nil_sublist _))) rfl rfl rfl rfl (by kernel_rfl) (by kernel_rfl) (by kernel_rfl) (fun _ _ _ h => h) (fun _ _ _ _ hst => q_move hst rfl) ?_
      clear hst; intro a hst
      refine f_take (i := 1) hS hst (.cons _ (.cons_cons _ (List.nil_sublist _))) rfl rfl rfl rfl (by kernel_rfl) (by kernel_rfl) (by kernel_rfl) (fun _ _ _ h => h) (fun _ _ _ _ hst => q_nilCheck hst rfl) ?_
      clear hst; intro a hst
      refine f_take (i := 2) hS hst (.cons _ (.cons_cons _ (List.nil_sublist _))) rfl rfl rfl rfl (by kernel_rfl) (by kernel_rfl) (by kernel_rfl) (fun _ _ _ h => h) (fun _ _ _ _ hst => q_fieldAddr hst rfl Tf101_0) ?_
      clear hst; intro a hst
      refine f_take (i := 3) hS hst (.cons _ (.cons_cons _ (List.nil_sublist _))) rfl rfl rfl rfl (by kernel_rfl) (by kernel_rfl) (by kernel_rfl) (fun _ _ _ h => h) (fun _ _ _ _ hst => q_loads hst rfl Ts9 (.head _) rfl) ?_
      clear hst; intro a hst
      refine f_take (i := 4) hS hst (.cons _ (.cons_cons _ (List.nil_sublist _))) rfl rfl rfl rfl (by kernel_rfl) (by kernel_rfl) (by kernel_rfl) (fun _ _ _ h => h) (fun _ _ _ _ hst => q_move hst rfl) ?_
      clear hst; intro a hst
      refine f_take (i := 5) hS hst (.cons _ (.cons_cons _ (List.nil_sublist _))) rfl rfl rfl rfl (by kernel_rfl) (by kernel_rfl) (by kernel_rfl) (fun _ _ _ h => h) (fun _ _ _ _ hst => q_nilCheck hst rfl) ?_
      clear hst; intro a hst
      refine f_take (i := 6) hS hst (.cons _ (.cons_cons _ (List.nil_sublist _))) rfl rfl rfl rfl (by kernel_rfl) (by kernel_rfl) (by kernel_rfl) (fun _ _ _ h => h) (fun _ _ _ _ hst => q_fieldAddr hst rfl Tf101_1) ?_
      clear hst; intro a hst
      refine f_take (i := 7) hS hst (.cons _ (.cons_cons _ (List.nil_sublist _))) rfl rfl rfl rfl (by kernel_rfl) (by kernel_rfl) (by kernel_rfl) (fun _ _ _ h => h) (fun _ _ _ _ hst => q_loads hst rfl Ts3 (.head _) rfl) ?_
      clear hst; intro a hst
      refine f_take (i := 8) hS hst (.cons _ (.cons_cons _ (List.nil_sublist _))) rfl rfl rfl rfl (by kernel_rfl) (by kernel_rfl) (by kernel_rfl) (fun _ _ _ h => h) (fun _ _ _ _ hst => q_substr_lo hst rfl rfl Tu9 (by omega) (by omega)) ?_
      clear hst; intro a hst
      refine f_take (i := 9) hS hst (.cons _ (.cons_cons _ (List.nil_sublist _))) rfl rfl rfl rfl (by kernel_rfl) (by kernel_rfl) (by kernel_rfl) (fun _ _ _ h => h) (fun _ _ _ _ hst => q_move hst rfl) ?_
      clear hst; intro a hst
      refine f_one (i := 10) (by kernel_rfl) rfl rfl (r_call (xs := [(Operand.tmp 54), (Operand.tmp 55)]) hst rfl Ten66 (prefix_c _ _) rfl ?_)
      clear hst; rintro a _ w U ⟨bp, rfl, hbp⟩ hst
      have hpx : bp = true ↔ (i = 1 ∧ b = 61) ∨ (i = 2 ∧ b = 124) := by
        rw [hbp, hx]
        rcases hi with ⟨rfl, h⟩ | ⟨rfl, h⟩ | ⟨rfl, h⟩ <;> rw [h] <;> rcases hb with rfl | rfl <;> simp
      refine ⟨hst.kept (.cons _ (.cons_cons _ (List.nil_sublist _))), ?_⟩
      refine f_done (by kernel_rfl) ?_
      have hst := hS.back hst
      refine then_n ?_
      refine x_cond hst rfl (fun hc5 => ?_) (fun hc5 => ?_)
      · try simp only [n1, n2, n3, n4, n5, n6, n7, n8, n9, na, nb] at hc5
        refine wp_seq ?_
        refine wp_region_lit ?_
        refine l_op rfl (r_move hst rfl rfl ?_)
        clear hst; intro a hst
        refine l_op rfl (r_build (ps := [(0, (Operand.const (Value.int IntKind.i64 6))), (1, (Operand.tmp 57))]) hst Tso50 Tz50 (.cons Tf50_0 rfl rfl (.here (.nil (Nat.zero_le _))) (.cons Tf50_1 rfl rfl (.there (.here (.nil (Nat.zero_le _)))) (.nil))) rfl ?_)
        clear hst; intro a hst
        refine l_op rfl (r_store hst rfl rfl rfl Tsz50 rfl (.head (.here (.here (.here (.here (.here (.nil (Nat.zero_le _)))))))) ?_)
        clear hst; intro w hst
        refine l_op rfl (r_assign hst rfl rfl ?_)
        clear hst; intro a hst
        refine wpList_nil ?_
        refine then_n ?_
        refine wp_ret ?_
        refine inb_r ?_
        refine then_r ?_
        refine then_r ?_
        refine inb_r ?_
        refine then_r ?_
        have hst := hst.setFact hmF (fun h => by first | exact h | exact h.2 | exact h.2.2 | exact h.2.2.2)
        refine m_ret (rs := [.cell 2 50, .tmp 3]) hst rfl (.agg rfl Ta50 (.head _) rfl (.tmp rfl (.nil))) ⟨_, (.cons _ (.cons_cons _ (List.Sublist.refl _))), rfl, ?_⟩
        exact ⟨⟨_, rfl, by grind⟩, rfl⟩
      try simp only [n1, n2, n3, n4, n5, n6, n7, n8, n9, na, nb] at hc5
      refine wp_skip ?_
      refine inb_n ?_
      refine then_n ?_
      refine wp_region_lit ?_
      refine l_op rfl (r_bin hst rfl rfl rfl rfl rfl ?_)
      clear hst; intro a hst
      rw [wrap_in _ (by omega) (by omega)] at hst
      refine l_op rfl (r_move hst rfl rfl ?_)
      clear hst; intro a hst
      refine wpList_nil ?_
      have hst := ((hst.keep (ds := [0, 2, 3, 40, 41, 42]) (.cons rfl (.cons rfl (.cons rfl (.cons rfl (.cons rfl (.cons rfl (.nil))))))))).setFact (Mono.and (Sl.mono _ _ _) hmF) (fun h => h.2)
      exact then_k ⟨_, by omega, _, _, hst, by omega, by grind, by grind, rfl⟩
    try simp only [n1, n2, n3, n4, n5, n6, n7, n8, n9, na, nb] at hc4
    refine wp_exit ?_
    refine then_x ?_
    refine then_x ?_
    refine inb_hit ?_
    refine then_n ?_
    refine wp_seq ?_
    omega
  try simp only [n1, n2, n3, n4, n5, n6, n7, n8, n9, na, nb] at hc1
  refine wp_region_lit ?_
  refine l_op rfl (r_bin hst rfl rfl rfl rfl rfl ?_)
  clear hst; intro a hst
  refine l_op rfl (r_assign hst rfl rfl ?_)
  clear hst; intro a hst
  refine wpList_nil ?_
  refine then_n ?_
  refine x_cond hst rfl (fun hc6 => ?_) (fun hc6 => ?_)
  · try simp only [n1, n2, n3, n4, n5, n6, n7, n8, n9, na, nb] at hc6
    refine wp_seq ?_
    omega
  try simp only [n1, n2, n3, n4, n5, n6, n7, n8, n9, na, nb] at hc6
  refine wp_seq ?_
  refine wp_region_lit ?_
  refine l_op rfl (r_bin hst rfl rfl rfl rfl rfl ?_)
  clear hst; intro a hst
  refine l_op rfl (r_assign hst rfl rfl ?_)
  clear hst; intro a hst
  refine wpList_nil ?_
  refine then_n ?_
  refine x_cond hst rfl (fun hc7 => ?_) (fun hc7 => ?_)
  · try simp only [n1, n2, n3, n4, n5, n6, n7, n8, n9, na, nb] at hc7
    refine wp_seq ?_
    omega
  try simp only [n1, n2, n3, n4, n5, n6, n7, n8, n9, na, nb] at hc7
  refine wp_skip ?_
  refine inb_n ?_
  refine then_n ?_
  refine wp_seq ?_
  refine wp_seq ?_
  refine wp_region_lit ?_
  refine l_op rfl (r_call (xs := []) hst rfl Ten71 (psyms_c) rfl ?_)
  clear hst; rintro a _ w U ⟨Ay, cy, rfl, hsy⟩ hst
  have hst := hst.addFact (Sl.mono _ _ _) hsy
  refine l_op rfl (r_lensl hst rfl Tu39 rfl ?_)
  clear hst; intro a hst
  refine l_op rfl (r_move hst rfl rfl ?_)
  clear hst; intro a hst
  refine wpList_nil ?_
  refine then_n ?_
  refine wp_block ?_
  have hst := (hst.keep (ds := [0, 2, 3, 40, 41, 42]) (.cons rfl (.cons rfl (.cons rfl (.cons rfl (.cons rfl (.cons rfl (.nil))))))))
  refine wp_loop_ghost (InvSy w0 U0 HX RW F g g1 src p ln st T l c b Ay cy) 3 ⟨_, 0, hst, by omega, by omega, by omega, by omega⟩ ?_
  clear hst
  rintro mz a w ⟨U, i, hst, hi0, hi1, hi2, rfl⟩
  refine wp_seq ?_
  refine wp_region_lit ?_
  refine l_op rfl (r_bin hst rfl rfl rfl rfl rfl ?_)
  clear hst; intro a hst
  refine wpList_nil ?_
  refine then_n ?_
  refine wp_seq ?_
  refine x_cond hst rfl (fun hc8 => ?_) (fun hc8 => ?_)
  · try simp only [n1, n2, n3, n4, n5, n6, n7, n8, n9, na, nb] at hc8
    refine wp_skip ?_
    refine then_n ?_
    refine wp_seq ?_
    refine wp_block ?_
    refine wp_seq ?_
    obtain ⟨g', o, cs, t, rfl, ht, ⟨s', rfl, rfl⟩, hel⟩ := hst.fact.1.at_ i.toNat (by omega)
    have hst := hst.addFact (Eat.mono _ _ _) hel
    have hi : (i = 0 ∧ s'.toList = [61, 61]) ∨ (i = 1 ∧ s'.toList = [61]) ∨ (i = 2 ∧ s'.toList = [124]) := by
      have : i = 0 ∨ i = 1 ∨ i = 2 := by omega
      rcases this with rfl | rfl | rfl
      · exact .inl ⟨rfl, by simpa [syms] using ht.symm⟩
      · exact .inr (.inl ⟨rfl, by simpa [syms] using ht.symm⟩)
      · exact .inr (.inr ⟨rfl, by simpa [syms] using ht.symm⟩)
    refine wp_region_lit ?_
    refine l_op rfl (r_indexAddr hst rfl rfl Tu39 Tsz9 (hi0) (by omega) rfl ?_)
    clear hst; intro a hst
    refine l_op rfl (r_eats hst rfl Ts9 (hst.fact.1) (j := 0) rfl rfl rfl ?_)
    clear hst; intro a hst
    refine l_op rfl (r_assign hst rfl rfl ?_)
    clear hst; intro a hst
    refine wpList_nil ?_
    refine then_n ?_
    refine wp_seq ?_
    refine x_drawf (by kernel_rfl) hst (.cons _ (.cons_cons _ (List.nil_sublist _))) ?_
    clear hst; intro w hS hst
    refine f_take (i := 0) hS hst (.cons _ (.cons_cons _ (List.nil_sublist _))) rfl rfl rfl rfl (by kernel_rfl) (by kernel_rfl) (by kernel_rfl) (fun _ _ _ h => h) (fun _ _ _ _ hst => q_move hst rfl) ?_
    clear hst; intro a hst
    refine f_take (i := 1) hS hst (.cons _ (.cons_cons _ (List.nil_sublist _))) rfl rfl rfl rfl (by kernel_rfl) (by kernel_rfl) (by kernel_rfl) (fun _ _ _ h => h) (fun _ _ _ _ hst => q_nilCheck hst rfl) ?_
    clear hst; intro a hst
    refine f_take (i := 2) hS hst (.cons _ (.cons_cons _ (List.nil_sublist _))) rfl rfl rfl rfl (by kernel_rfl) (by kernel_rfl) (by kernel_rfl) (fun _ _ _ h => h) (fun _ _ _ _ hst => q_fieldAddr hst rfl Tf101_0) ?_
    clear hst; intro a hst
    refine f_take (i := 3) hS hst (.cons _ (.cons_cons _ (List.nil_sublist _))) rfl rfl rfl rfl (by kernel_rfl) (by kernel_rfl) (by kernel_rfl) (fun _ _ _ h => h) (fun _ _ _ _ hst => q_loads hst rfl Ts9 (.head _) rfl) ?_
    clear hst; intro a hst
    refine f_take (i := 4) hS hst (.cons _ (.cons_cons _ (List.nil_sublist _))) rfl rfl rfl rfl (by kernel_rfl) (by kernel_rfl) (by kernel_rfl) (fun _ _ _ h => h) (fun _ _ _ _ hst => q_move hst rfl) ?_
    clear hst; intro a hst
    refine f_take (i := 5) hS hst (.cons _ (.cons_cons _ (List.nil_sublist _))) rfl rfl rfl rfl (by kernel_rfl) (by kernel_rfl) (by kernel_rfl) (fun _ _ _ h => h) (fun _ _ _ _ hst => q_nilCheck hst rfl) ?_
    clear hst; intro a hst
    refine f_take (i := 6) hS hst (.cons _ (.cons_cons _ (List.nil_sublist _))) rfl rfl rfl rfl (by kernel_rfl) (by kernel_rfl) (by kernel_rfl) (fun _ _ _ h => h) (fun _ _ _ _ hst => q_fieldAddr hst rfl Tf101_1) ?_
    clear hst; intro a hst
    refine f_take (i := 7) hS hst (.cons _ (.cons_cons _ (List.nil_sublist _))) rfl rfl rfl rfl (by kernel_rfl) (by kernel_rfl) (by kernel_rfl) (fun _ _ _ h => h) (fun _ _ _ _ hst => q_loads hst rfl Ts3 (.head _) rfl) ?_
    clear hst; intro a hst
    refine f_take (i := 8) hS hst (.cons _ (.cons_cons _ (List.nil_sublist _))) rfl rfl rfl rfl (by kernel_rfl) (by kernel_rfl) (by kernel_rfl) (fun _ _ _ h => h) (fun _ _ _ _ hst => q_substr_lo hst rfl rfl Tu9 (by omega) (by omega)) ?_
    clear hst; intro a hst
    refine f_take (i := 9) hS hst (.cons _ (.cons_cons _ (List.nil_sublist _))) rfl rfl rfl rfl (by kernel_rfl) (by kernel_rfl) (by kernel_rfl) (fun _ _ _ h => h) (fun _ _ _ _ hst => q_move hst rfl) ?_
    clear hst; intro a hst
    refine f_one (i := 10) (by kernel_rfl) rfl rfl (r_call (xs := [(Operand.tmp 54), (Operand.tmp 55)]) hst rfl Ten66 (prefix_c _ _) rfl ?_)
    clear hst; rintro a _ w U ⟨bp, rfl, hbp⟩ hst
    have hpx : bp = true ↔ (i = 1 ∧ b = 61) ∨ (i = 2 ∧ b = 124) := by
      rw [hbp, hx]
      rcases hi with ⟨rfl, h⟩ | ⟨rfl, h⟩ | ⟨rfl, h⟩ <;> rw [h] <;> rcases hb with rfl | rfl <;> simp
    refine ⟨hst.kept (.cons _ (.cons_cons _ (List.nil_sublist _))), ?_⟩
    refine f_done (by kernel_rfl) ?_
    have hst := hS.back hst
    refine then_n ?_
    refine x_cond hst rfl (fun hc9 => ?_) (fun hc9 => ?_)
    · try simp only [n1, n2, n3, n4, n5, n6, n7, n8, n9, na, nb] at hc9
      refine wp_seq ?_
      refine wp_region_lit ?_
      refine l_op rfl (r_move hst rfl rfl ?_)
      clear hst; intro a hst
      refine l_op rfl (r_build (ps := [(0, (Operand.const (Value.int IntKind.i64 6))), (1, (Operand.tmp 57))]) hst Tso50 Tz50 (.cons Tf50_0 rfl rfl (.here (.nil (Nat.zero_le _))) (.cons Tf50_1 rfl rfl (.there (.here (.nil (Nat.zero_le _)))) (.nil))) rfl ?_)
      clear hst; intro a hst
      refine l_op rfl (r_store hst rfl rfl rfl Tsz50 rfl (.head (.here (.here (.here (.here (.here (.nil (Nat.zero_le _)))))))) ?_)
      clear hst; intro w hst
      refine l_op rfl (r_assign hst rfl rfl ?_)
      clear hst; intro a hst
      refine wpList_nil ?_
      refine then_n ?_
      refine wp_ret ?_
      refine inb_r ?_
      refine then_r ?_
      refine then_r ?_
      refine inb_r ?_
      refine then_r ?_
      have hst := hst.setFact hmF (fun h => by first | exact h | exact h.2 | exact h.2.2 | exact h.2.2.2)
      refine m_ret (rs := [.cell 2 50, .tmp 3]) hst rfl (.agg rfl Ta50 (.head _) rfl (.tmp rfl (.nil))) ⟨_, (.cons _ (.cons_cons _ (List.Sublist.refl _))), rfl, ?_⟩
      exact ⟨⟨_, rfl, by grind⟩, rfl⟩
    try simp only [n1, n2, n3, n4, n5, n6, n7, n8, n9, na, nb] at hc9
    refine wp_skip ?_
    refine inb_n ?_
    refine then_n ?_
    refine wp_region_lit ?_
    refine l_op rfl (r_bin hst rfl rfl rfl rfl rfl ?_)
    clear hst; intro a hst
    rw [wrap_in _ (by omega) (by omega)] at hst
    refine l_op rfl (r_move hst rfl rfl ?_)
    clear hst; intro a hst
    refine wpList_nil ?_
    have hst := ((hst.keep (ds := [0, 2, 3, 40, 41, 42]) (.cons rfl (.cons rfl (.cons rfl (.cons rfl (.cons rfl (.cons rfl (.nil))))))))).setFact (Mono.and (Sl.mono _ _ _) hmF) (fun h => h.2)
    exact then_k ⟨_, by omega, _, _, hst, by omega, by grind, by grind, rfl⟩
  try simp only [n1, n2, n3, n4, n5, n6, n7, n8, n9, na, nb] at hc8
  refine wp_exit ?_
  refine then_x ?_
  refine then_x ?_
  refine inb_hit ?_
  refine then_n ?_
  refine wp_seq ?_
  omega

def JSk (w0 : World) (U0 : Mk) (HX : List Blk) (RW : List Row) (F : Fact) (g : Nat) (src : ByteArray) (p ln st : Int) (T : Option Addr) (l c : Nat) (q : Int) (mz : Nat) (a : Act) (w : World) : Prop :=
  ∃ (U : Mk) (r : Int), Sta w0 U0 98 [(0, .pointer (some ⟨g, 0, none⟩))] (⟨g, 101, [.string src, .int .i64 r, .int .i64 ln, .int .i64 st, .slice T l c]⟩ :: HX) RW F a w U ∧ p ≤ r ∧ r ≤ q ∧ mz = (q - r).toNat

theorem skip_m {g : Nat} {F : Fact} {src : ByteArray} {p ln st : Int} {T : Option Addr} {l c : Nat} {q : Int} (h0 : 0 ≤ p) (hpq : p ≤ q) (hqs : q ≤ src.size) (hs4 : src.size ≤ 4096) (hin : ∀ r : Int, p ≤ r → r < q → src.toList[r.toNat]? = some 32) (hq : q = src.size ∨ ∃ b : UInt8, src.toList[q.toNat]? = some b ∧ 33 ≤ (b.toNat : Int) ∧ (b.toNat : Int) ≠ 45) :
    MethC Tryz.prog 47 [.pointer (some ⟨g, 0, none⟩)] ⟨g, 101, [.string src, .int .i64 p, .int .i64 ln, .int .i64 st, .slice T l c]⟩ F (fun v b' => v = .tuple #[] ∧ b' = ⟨g, 101, [.string src, .int .i64 q, .int .i64 ln, .int .i64 st, .slice T l c]⟩) := by
  refine m_enter (n := 98) Tryz.func47 rfl rfl (by simp) (.cons (d := 0) rfl (.nil)) ?_
  intro w0 U0 HX RW w U a hst
  have hmF := hst.mono
  refine x_scope (JSk w0 U0 HX RW F g src p ln st T l c q) (q - p).toNat ⟨_, p, hst, by omega, by omega, rfl⟩ ?_
  clear hst
  rintro mz a w ⟨U, r, hst, hr0, hr1, rfl⟩
  refine wp_seq ?_
  refine wp_seq ?_
  refine x_drawf (by kernel_rfl) hst (.cons_cons _ (List.nil_sublist _)) ?_
  clear hst; intro w hS hst
  refine f_take (i := 0) hS hst (.cons_cons _ (List.nil_sublist _)) rfl rfl rfl rfl (by kernel_rfl) (by kernel_rfl) (by kernel_rfl) (fun _ _ _ h => h) (fun _ _ _ _ hst => q_move hst rfl) ?_
  clear hst; intro a hst
  refine f_take (i := 1) hS hst (.cons_cons _ (List.nil_sublist _)) rfl rfl rfl rfl (by kernel_rfl) (by kernel_rfl) (by kernel_rfl) (fun _ _ _ h => h) (fun _ _ _ _ hst => q_nilCheck hst rfl) ?_
  clear hst; intro a hst
  refine f_take (i := 2) hS hst (.cons_cons _ (List.nil_sublist _)) rfl rfl rfl rfl (by kernel_rfl) (by kernel_rfl) (by kernel_rfl) (fun _ _ _ h => h) (fun _ _ _ _ hst => q_fieldAddr hst rfl Tf101_1) ?_
  clear hst; intro a hst
  refine f_take (i := 3) hS hst (.cons_cons _ (List.nil_sublist _)) rfl rfl rfl rfl (by kernel_rfl) (by kernel_rfl) (by kernel_rfl) (fun _ _ _ h => h) (fun _ _ _ _ hst => q_loads hst rfl Ts3 (.head _) rfl) ?_
  clear hst; intro a hst
  refine f_take (i := 4) hS hst (.cons_cons _ (List.nil_sublist _)) rfl rfl rfl rfl (by kernel_rfl) (by kernel_rfl) (by kernel_rfl) (fun _ _ _ h => h) (fun _ _ _ _ hst => q_move hst rfl) ?_
  clear hst; intro a hst
  refine f_take (i := 5) hS hst (.cons_cons _ (List.nil_sublist _)) rfl rfl rfl rfl (by kernel_rfl) (by kernel_rfl) (by kernel_rfl) (fun _ _ _ h => h) (fun _ _ _ _ hst => q_nilCheck hst rfl) ?_
  clear hst; intro a hst
  refine f_take (i := 6) hS hst (.cons_cons _ (List.nil_sublist _)) rfl rfl rfl rfl (by kernel_rfl) (by kernel_rfl) (by kernel_rfl) (fun _ _ _ h => h) (fun _ _ _ _ hst => q_fieldAddr hst rfl Tf101_0) ?_
  clear hst; intro a hst
  refine f_take (i := 7) hS hst (.cons_cons _ (List.nil_sublist _)) rfl rfl rfl rfl (by kernel_rfl) (by kernel_rfl) (by kernel_rfl) (fun _ _ _ h => h) (fun _ _ _ _ hst => q_loads hst rfl Ts9 (.head _) rfl) ?_
  clear hst; intro a hst
  refine f_take (i := 8) hS hst (.cons_cons _ (List.nil_sublist _)) rfl rfl rfl rfl (by kernel_rfl) (by kernel_rfl) (by kernel_rfl) (fun _ _ _ h => h) (fun _ _ _ _ hst => q_lenstr hst rfl Tu9) ?_
  clear hst; intro a hst
  refine f_take (i := 9) hS hst (.cons_cons _ (List.nil_sublist _)) rfl rfl rfl rfl (by kernel_rfl) (by kernel_rfl) (by kernel_rfl) (fun _ _ _ h => h) (fun _ _ _ _ hst => q_bin hst rfl rfl rfl rfl) ?_
  clear hst; intro a hst
  refine f_done (by kernel_rfl) ?_
  have hst := hS.back hst
  refine then_n ?_
  refine x_cond hst rfl (fun hc1 => ?_) (fun hc1 => ?_)
  · try simp only [n1, n2, n3, n4, n5, n6, n7, n8, n9, na, nb] at hc1
    refine wp_ret ?_
    refine then_r ?_
    refine jump_r ?_
    refine m_ret (rs := []) hst rfl (.nil) ⟨_, (.cons_cons _ (List.Sublist.refl _)), rfl, ?_⟩
    exact ⟨rfl, by rw [show r = q by omega]⟩
  try simp only [n1, n2, n3, n4, n5, n6, n7, n8, n9, na, nb] at hc1
  refine wp_skip ?_
  refine then_n ?_
  refine wp_seq ?_
  obtain ⟨b, hb, hbl⟩ : ∃ b : UInt8, src.toList[r.toNat]? = some b ∧ ((r < q ∧ (b.toNat : Int) = 32) ∨ (r = q ∧ 33 ≤ (b.toNat : Int) ∧ (b.toNat : Int) ≠ 45)) := by
    rcases Int.lt_or_le r q with hrq | hrq
    · exact ⟨32, hin r (by omega) hrq, .inl ⟨hrq, by decide⟩⟩
    · rcases hq with hq | ⟨b, h1, h2, h3⟩
      · omega
      · exact ⟨b, by rw [show r = q by omega]; exact h1, .inr ⟨by omega, h2, h3⟩⟩
  refine x_drawf (by kernel_rfl) hst (.cons_cons _ (List.nil_sublist _)) ?_
  clear hst; intro w hS hst
  refine f_take (i := 0) hS hst (.cons_cons _ (List.nil_sublist _)) rfl rfl rfl rfl (by kernel_rfl) (by kernel_rfl) (by kernel_rfl) (fun _ _ _ h => h) (fun _ _ _ _ hst => q_move hst rfl) ?_
  clear hst; intro a hst
  refine f_take (i := 1) hS hst (.cons_cons _ (List.nil_sublist _)) rfl rfl rfl rfl (by kernel_rfl) (by kernel_rfl) (by kernel_rfl) (fun _ _ _ h => h) (fun _ _ _ _ hst => q_nilCheck hst rfl) ?_
  clear hst; intro a hst
  refine f_take (i := 2) hS hst (.cons_cons _ (List.nil_sublist _)) rfl rfl rfl rfl (by kernel_rfl) (by kernel_rfl) (by kernel_rfl) (fun _ _ _ h => h) (fun _ _ _ _ hst => q_fieldAddr hst rfl Tf101_0) ?_
  clear hst; intro a hst
  refine f_take (i := 3) hS hst (.cons_cons _ (List.nil_sublist _)) rfl rfl rfl rfl (by kernel_rfl) (by kernel_rfl) (by kernel_rfl) (fun _ _ _ h => h) (fun _ _ _ _ hst => q_loads hst rfl Ts9 (.head _) rfl) ?_
  clear hst; intro a hst
  refine f_take (i := 4) hS hst (.cons_cons _ (List.nil_sublist _)) rfl rfl rfl rfl (by kernel_rfl) (by kernel_rfl) (by kernel_rfl) (fun _ _ _ h => h) (fun _ _ _ _ hst => q_move hst rfl) ?_
  clear hst; intro a hst
  refine f_take (i := 5) hS hst (.cons_cons _ (List.nil_sublist _)) rfl rfl rfl rfl (by kernel_rfl) (by kernel_rfl) (by kernel_rfl) (fun _ _ _ h => h) (fun _ _ _ _ hst => q_nilCheck hst rfl) ?_
  clear hst; intro a hst
  refine f_take (i := 6) hS hst (.cons_cons _ (List.nil_sublist _)) rfl rfl rfl rfl (by kernel_rfl) (by kernel_rfl) (by kernel_rfl) (fun _ _ _ h => h) (fun _ _ _ _ hst => q_fieldAddr hst rfl Tf101_1) ?_
  clear hst; intro a hst
  refine f_take (i := 7) hS hst (.cons_cons _ (List.nil_sublist _)) rfl rfl rfl rfl (by kernel_rfl) (by kernel_rfl) (by kernel_rfl) (fun _ _ _ h => h) (fun _ _ _ _ hst => q_loads hst rfl Ts3 (.head _) rfl) ?_
  clear hst; intro a hst
  refine f_take (i := 8) hS hst (.cons_cons _ (List.nil_sublist _)) rfl rfl rfl rfl (by kernel_rfl) (by kernel_rfl) (by kernel_rfl) (fun _ _ _ h => h) (fun _ _ _ _ hst => q_indexS hst rfl rfl Tu9 (by omega) (b := b) (hb)) ?_
  clear hst; intro a hst
  refine f_one (i := 9) (by kernel_rfl) rfl rfl (r_call (xs := [(Operand.tmp 22)]) hst rfl Ten65 (cls_c _) rfl ?_)
  clear hst; rintro a _ w U ⟨kc6, rfl, hk6r, hk6a, hk6b, hk6c, hk6d, hk6e⟩ hst
  refine ⟨hst.kept (.cons_cons _ (List.nil_sublist _)), ?_⟩
  refine f_take (i := 10) hS hst (.cons_cons _ (List.nil_sublist _)) rfl rfl rfl rfl (by kernel_rfl) (by kernel_rfl) (by kernel_rfl) (fun _ _ _ h => h) (fun _ _ _ _ hst => q_assign hst rfl) ?_
  clear hst; intro a hst
  refine f_done (by kernel_rfl) ?_
  have hst := hS.back hst
  refine then_n ?_
  refine wp_block ?_
  refine wp_seq ?_
  refine wp_region_lit ?_
  refine l_op rfl (r_move hst rfl rfl ?_)
  clear hst; intro a hst
  refine l_op rfl (r_bin hst rfl rfl rfl rfl rfl ?_)
  clear hst; intro a hst
  refine l_op rfl (r_assign hst rfl rfl ?_)
  clear hst; intro a hst
  refine wpList_nil ?_
  refine then_n ?_
  refine x_cond hst rfl (fun hc2 => ?_) (fun hc2 => ?_)
  · try simp only [n1, n2, n3, n4, n5, n6, n7, n8, n9, na, nb] at hc2
    refine wp_seq ?_
    refine wp_region_lit ?_
    refine l_op rfl (r_move hst rfl rfl ?_)
    clear hst; intro a hst
    refine l_op rfl (r_nilCheck hst rfl rfl ?_)
    clear hst; intro a hst
    refine l_op rfl (r_fieldAddr hst rfl Tf101_1 rfl ?_)
    clear hst; intro a hst
    refine l_op rfl (r_loads hst rfl Ts3 (.head _) rfl rfl ?_)
    clear hst; intro a hst
    refine l_op rfl (r_bin hst rfl rfl rfl rfl rfl ?_)
    clear hst; intro a hst
    rw [wrap_in _ (by omega) (by omega)] at hst
    refine l_op rfl (r_nilCheck hst rfl rfl ?_)
    clear hst; intro a hst
    refine l_op rfl (r_fieldAddr hst rfl Tf101_1 rfl ?_)
    clear hst; intro a hst
    refine l_op rfl (r_store hst rfl rfl rfl Tsz3 rfl (.head (.there (.here (.nil (Nat.zero_le _))))) ?_)
    clear hst; intro w hst
    refine wpList_nil ?_
    refine then_n ?_
    refine wp_goto ?_
    refine inb_g ?_
    refine jump_g ?_
    have hst := (hst.keep (ds := [0]) (.cons rfl (.nil)))
    exact ⟨_, by omega, _, _, hst, by omega, by omega, rfl⟩
  try simp only [n1, n2, n3, n4, n5, n6, n7, n8, n9, na, nb] at hc2
  refine wp_seq ?_
  refine wp_region_lit ?_
  refine l_op rfl (r_move hst rfl rfl ?_)
  clear hst; intro a hst
  refine l_op rfl (r_bin hst rfl rfl rfl rfl rfl ?_)
  clear hst; intro a hst
  refine l_op rfl (r_assign hst rfl rfl ?_)
  clear hst; intro a hst
  refine wpList_nil ?_
  refine then_n ?_
  refine x_cond hst rfl (fun hc3 => ?_) (fun hc3 => ?_)
  · try simp only [n1, n2, n3, n4, n5, n6, n7, n8, n9, na, nb] at hc3
    refine wp_seq ?_
    omega
  try simp only [n1, n2, n3, n4, n5, n6, n7, n8, n9, na, nb] at hc3
  refine wp_seq ?_
  refine x_drawf (by kernel_rfl) hst (.cons_cons _ (List.nil_sublist _)) ?_
  clear hst; intro w hS hst
  refine f_take (i := 0) hS hst (.cons_cons _ (List.nil_sublist _)) rfl rfl rfl rfl (by kernel_rfl) (by kernel_rfl) (by kernel_rfl) (fun _ _ _ h => h) (fun _ _ _ _ hst => q_move hst rfl) ?_
  clear hst; intro a hst
  refine f_take (i := 1) hS hst (.cons_cons _ (List.nil_sublist _)) rfl rfl rfl rfl (by kernel_rfl) (by kernel_rfl) (by kernel_rfl) (fun _ _ _ h => h) (fun _ _ _ _ hst => q_nilCheck hst rfl) ?_
  clear hst; intro a hst
  refine f_take (i := 2) hS hst (.cons_cons _ (List.nil_sublist _)) rfl rfl rfl rfl (by kernel_rfl) (by kernel_rfl) (by kernel_rfl) (fun _ _ _ h => h) (fun _ _ _ _ hst => q_fieldAddr hst rfl Tf101_0) ?_
  clear hst; intro a hst
  refine f_take (i := 3) hS hst (.cons_cons _ (List.nil_sublist _)) rfl rfl rfl rfl (by kernel_rfl) (by kernel_rfl) (by kernel_rfl) (fun _ _ _ h => h) (fun _ _ _ _ hst => q_loads hst rfl Ts9 (.head _) rfl) ?_
  clear hst; intro a hst
  refine f_take (i := 4) hS hst (.cons_cons _ (List.nil_sublist _)) rfl rfl rfl rfl (by kernel_rfl) (by kernel_rfl) (by kernel_rfl) (fun _ _ _ h => h) (fun _ _ _ _ hst => q_move hst rfl) ?_
  clear hst; intro a hst
  refine f_take (i := 5) hS hst (.cons_cons _ (List.nil_sublist _)) rfl rfl rfl rfl (by kernel_rfl) (by kernel_rfl) (by kernel_rfl) (fun _ _ _ h => h) (fun _ _ _ _ hst => q_nilCheck hst rfl) ?_
  clear hst; intro a hst
  refine f_take (i := 6) hS hst (.cons_cons _ (List.nil_sublist _)) rfl rfl rfl rfl (by kernel_rfl) (by kernel_rfl) (by kernel_rfl) (fun _ _ _ h => h) (fun _ _ _ _ hst => q_fieldAddr hst rfl Tf101_1) ?_
  clear hst; intro a hst
  refine f_take (i := 7) hS hst (.cons_cons _ (List.nil_sublist _)) rfl rfl rfl rfl (by kernel_rfl) (by kernel_rfl) (by kernel_rfl) (fun _ _ _ h => h) (fun _ _ _ _ hst => q_loads hst rfl Ts3 (.head _) rfl) ?_
  clear hst; intro a hst
  refine f_take (i := 8) hS hst (.cons_cons _ (List.nil_sublist _)) rfl rfl rfl rfl (by kernel_rfl) (by kernel_rfl) (by kernel_rfl) (fun _ _ _ h => h) (fun _ _ _ _ hst => q_substr_lo hst rfl rfl Tu9 (by omega) (by omega)) ?_
  clear hst; intro a hst
  refine f_one (i := 9) (by kernel_rfl) rfl rfl (r_call (xs := [(Operand.tmp 68), (Operand.const (Value.string { data := #[45, 45] }))]) hst rfl Ten66 (prefix_c _ _) rfl ?_)
  clear hst; rintro a _ w U ⟨bp, rfl, hbp⟩ hst
  refine ⟨hst.kept (.cons_cons _ (List.nil_sublist _)), ?_⟩
  refine f_take (i := 10) hS hst (.cons_cons _ (List.nil_sublist _)) rfl rfl rfl rfl (by kernel_rfl) (by kernel_rfl) (by kernel_rfl) (fun _ _ _ h => h) (fun _ _ _ _ hst => q_assign hst rfl) ?_
  clear hst; intro a hst
  refine f_done (by kernel_rfl) ?_
  have hst := hS.back hst
  refine then_n ?_
  refine x_cond hst rfl (fun hc4 => ?_) (fun hc4 => ?_)
  · try simp only [n1, n2, n3, n4, n5, n6, n7, n8, n9, na, nb] at hc4
    refine wp_seq ?_
    refine wp_seq ?_
    have h1 := hbp.1 (by assumption)
    rw [toList_extract] at h1
    have h2 := congrArg (fun l => l[0]?) h1
    simp [hb, List.getElem?_take] at h2
    have h3 := h2.2
    subst h3
    simp at hbl
  try simp only [n1, n2, n3, n4, n5, n6, n7, n8, n9, na, nb] at hc4
  refine wp_skip ?_
  refine inb_n ?_
  refine jump_n ?_
  refine m_end (rs := []) hst rfl (.nil) ⟨_, (.cons_cons _ (List.Sublist.refl _)), rfl, ?_⟩
  exact ⟨rfl, by rw [show r = q by omega]⟩
end Go.Proofs.YtjnjkbmegfkiiaaGreat
