/- Contracts of the scanner. -/
import Derived.Test.YtjnjkbmegfkiiaaGreatT
namespace Go.Proofs.YtjnjkbmegfkiiaaGreat
open Go.RowKit
set_option maxRecDepth 10000
set_option linter.unusedVariables false
set_option linter.unusedSimpArgs false
attribute [local irreducible] Oper.wp Code.wp wpList wpAny wpOp Calls CallsS
def InvHas (w0 : World) (U0 : Mk) (s : ByteArray) (z : Int) (mz : Nat) (a : Act) (w : World) : Prop :=
  ∃ (U : Mk) (i : Int), Sta w0 U0 17 [(0, .string s), (1, .int .u8 z), (5, .int .i64 i)] [] [] (fun _ _ => True) a w U ∧ 0 ≤ i ∧ i ≤ s.size ∧ mz = ((s.size : Int) - i).toNat

theorem has_c {w : World} {U : Mk} (s : ByteArray) (z : Int) (hs : s.size ≤ 1000000) :
    CallsS Tryz.prog 78 [.string s, .int .u8 z] w U (fun v _ _ => ∃ b : Bool, v = .bool b) := by
  refine x_enter (F := fun _ _ => True) (n := 17) Tryz.func78 rfl rfl (by simp) (.cons (d := 0) rfl (.cons (d := 1) rfl (.nil))) (Mono.true_) (trivial) ?_
  intro a hst
  refine wp_seq ?_
  refine wp_region_lit ?_
  refine l_op rfl (r_assign hst rfl rfl ?_)
  clear hst; intro a hst
  refine wpList_nil ?_
  refine then_n ?_
  refine wp_seq ?_
  refine wp_seq ?_
  refine wp_region_lit ?_
  refine l_op rfl (r_assign hst rfl rfl ?_)
  clear hst; intro a hst
  refine wpList_nil ?_
  refine then_n ?_
  refine wp_block ?_
  have hst := ((hst.keep (ds := [0, 1, 5]) (.cons rfl (.cons rfl (.cons rfl (.nil))))).drop (.slnil))
  refine wp_loop_ghost (InvHas _ _ s z) (s.size) ⟨_, 0, hst, by omega, by omega, by omega⟩ ?_
  clear hst
  rintro mz a w ⟨U, i, hst, hi0, hi1, rfl⟩
  refine wp_seq ?_
  refine wp_seq ?_
  refine wp_region_lit ?_
  refine l_op rfl (r_move hst rfl rfl ?_)
  clear hst; intro a hst
  refine l_op rfl (r_move hst rfl rfl ?_)
  clear hst; intro a hst
  refine l_op rfl (r_lenstr hst rfl Tu9 rfl ?_)
  clear hst; intro a hst
  refine l_op rfl (r_bin hst rfl rfl rfl rfl rfl ?_)
  clear hst; intro a hst
  refine wpList_nil ?_
  refine then_n ?_
  refine x_cond hst rfl (fun hc1 => ?_) (fun hc1 => ?_)
  · try simp at hc1
    refine wp_skip ?_
    refine then_n ?_
    refine wp_seq ?_
    refine wp_block ?_
    refine wp_seq ?_
    refine wp_region_lit ?_
    refine l_op rfl (r_move hst rfl rfl ?_)
    clear hst; intro a hst
    refine l_op rfl (r_move hst rfl rfl ?_)
    clear hst; intro a hst
    refine l_op rfl (r_index hst rfl rfl Tu9 (by omega) (by omega) rfl ?_)
    clear hst; intro a by1 hby1 hst
    refine l_op rfl (r_move hst rfl rfl ?_)
    clear hst; intro a hst
    refine l_op rfl (r_bin hst rfl rfl rfl rfl rfl ?_)
    clear hst; intro a hst
    refine wpList_nil ?_
    refine then_n ?_
    refine x_cond hst rfl (fun hc2 => ?_) (fun hc2 => ?_)
    · try simp at hc2
      refine wp_seq ?_
      refine wp_region_lit ?_
      refine l_op rfl (r_assign hst rfl rfl ?_)
      clear hst; intro a hst
      refine wpList_nil ?_
      refine then_n ?_
      refine wp_ret ?_
      refine inb_r ?_
      refine then_r ?_
      refine then_r ?_
      refine inb_r ?_
      refine then_r ?_
      refine x_ret (rs := [.tmp 4]) hst rfl (.tmp rfl (.nil)) ?_
      exact ⟨_, rfl⟩
    try simp at hc2
    refine wp_skip ?_
    refine inb_n ?_
    refine then_n ?_
    refine wp_region_lit ?_
    refine l_op rfl (r_move hst rfl rfl ?_)
    clear hst; intro a hst
    refine l_op rfl (r_bin hst rfl rfl rfl rfl rfl ?_)
    clear hst; intro a hst
    rw [wrap_in _ (by omega) (by omega)] at hst
    refine l_op rfl (r_assign hst rfl rfl ?_)
    clear hst; intro a hst
    refine wpList_nil ?_
    have hst := ((hst.keep (ds := [0, 1, 5]) (.cons rfl (.cons rfl (.cons rfl (.nil))))).drop (.slnil))
    exact then_k ⟨_, by omega, _, _, hst, by omega, by omega, rfl⟩
  try simp at hc1
  refine wp_exit ?_
  refine then_x ?_
  refine then_x ?_
  refine inb_hit ?_
  refine then_n ?_
  refine wp_seq ?_
  refine wp_region_lit ?_
  refine l_op rfl (r_assign hst rfl rfl ?_)
  clear hst; intro a hst
  refine wpList_nil ?_
  refine then_n ?_
  refine wp_ret ?_
  refine x_ret (rs := [.tmp 4]) hst rfl (.tmp rfl (.nil)) ?_
  exact ⟨_, rfl⟩

theorem class_c {w : World} {U : Mk} (z : Int) :
    CallsS Tryz.prog 56 [.int .u8 z] w U (fun v _ _ => ∃ k : Int, v = .int .i64 k ∧ (k = 1 ↔ (97 ≤ z ∧ z ≤ 122)) ∧ (k = 2 ↔ (65 ≤ z ∧ z ≤ 90)) ∧ (k = 3 ↔ (48 ≤ z ∧ z ≤ 57))) := by
  refine x_enter (F := fun _ _ => True) (n := 27) Tryz.func56 rfl rfl (by simp) (.cons (d := 0) rfl (.nil)) (Mono.true_) (trivial) ?_
  intro a hst
  refine wp_seq ?_
  refine wp_region_lit ?_
  refine l_op rfl (r_assign hst rfl rfl ?_)
  clear hst; intro a hst
  refine wpList_nil ?_
  refine then_n ?_
  refine wp_seq ?_
  refine wp_seq ?_
  refine wp_region_lit ?_
  refine l_op rfl (r_move hst rfl rfl ?_)
  clear hst; intro a hst
  refine l_op rfl (r_bin hst rfl rfl rfl rfl rfl ?_)
  clear hst; intro a hst
  refine l_op rfl (r_move hst rfl rfl ?_)
  clear hst; intro a hst
  refine hst.split (t := 5) rfl (fun hc1 hst => ?_) (fun hc1 hst => ?_)
  · try simp at hc1
    refine l_on hst rfl rfl rfl (r_move hst rfl rfl ?_)
    clear hst; intro a hst
    refine l_on hst rfl rfl rfl (r_bin hst rfl rfl rfl rfl rfl ?_)
    clear hst; intro a hst
    refine l_op rfl (r_pick hst rfl rfl rfl ?_)
    clear hst; intro a hst
    refine wpList_nil ?_
    refine then_n ?_
    refine x_cond hst rfl (fun hc2 => ?_) (fun hc2 => ?_)
    · try simp at hc2
      refine wp_seq ?_
      refine wp_region_lit ?_
      refine l_op rfl (r_assign hst rfl rfl ?_)
      clear hst; intro a hst
      refine wpList_nil ?_
      refine then_n ?_
      refine wp_ret ?_
      refine then_r ?_
      refine x_ret (rs := [.tmp 2]) hst rfl (.tmp rfl (.nil)) ?_
      exact ⟨_, rfl, by grind, by grind, by grind⟩
    try simp at hc2
    refine wp_skip ?_
    refine then_n ?_
    refine wp_seq ?_
    refine wp_seq ?_
    refine wp_region_lit ?_
    refine l_op rfl (r_move hst rfl rfl ?_)
    clear hst; intro a hst
    refine l_op rfl (r_bin hst rfl rfl rfl rfl rfl ?_)
    clear hst; intro a hst
    refine l_op rfl (r_move hst rfl rfl ?_)
    clear hst; intro a hst
    refine hst.split (t := 11) rfl (fun hc3 hst => ?_) (fun hc3 hst => ?_)
    · try simp at hc3
      refine l_on hst rfl rfl rfl (r_move hst rfl rfl ?_)
      clear hst; intro a hst
      refine l_on hst rfl rfl rfl (r_bin hst rfl rfl rfl rfl rfl ?_)
      clear hst; intro a hst
      refine l_op rfl (r_pick hst rfl rfl rfl ?_)
      clear hst; intro a hst
      refine wpList_nil ?_
      refine then_n ?_
      refine x_cond hst rfl (fun hc4 => ?_) (fun hc4 => ?_)
      · try simp at hc4
        refine wp_seq ?_
        refine wp_region_lit ?_
        refine l_op rfl (r_assign hst rfl rfl ?_)
        clear hst; intro a hst
        refine wpList_nil ?_
        refine then_n ?_
        refine wp_ret ?_
        refine then_r ?_
        refine x_ret (rs := [.tmp 2]) hst rfl (.tmp rfl (.nil)) ?_
        exact ⟨_, rfl, by grind, by grind, by grind⟩
      try simp at hc4
      refine wp_skip ?_
      refine then_n ?_
      refine wp_seq ?_
      refine wp_seq ?_
      refine wp_region_lit ?_
      refine l_op rfl (r_move hst rfl rfl ?_)
      clear hst; intro a hst
      refine l_op rfl (r_bin hst rfl rfl rfl rfl rfl ?_)
      clear hst; intro a hst
      refine l_op rfl (r_move hst rfl rfl ?_)
      clear hst; intro a hst
      refine hst.split (t := 17) rfl (fun hc5 hst => ?_) (fun hc5 hst => ?_)
      · try simp at hc5
        refine l_on hst rfl rfl rfl (r_move hst rfl rfl ?_)
        clear hst; intro a hst
        refine l_on hst rfl rfl rfl (r_bin hst rfl rfl rfl rfl rfl ?_)
        clear hst; intro a hst
        refine l_op rfl (r_pick hst rfl rfl rfl ?_)
        clear hst; intro a hst
        refine wpList_nil ?_
        refine then_n ?_
        refine x_cond hst rfl (fun hc6 => ?_) (fun hc6 => ?_)
        · try simp at hc6
          refine wp_seq ?_
          refine wp_region_lit ?_
          refine l_op rfl (r_assign hst rfl rfl ?_)
          clear hst; intro a hst
          refine wpList_nil ?_
          refine then_n ?_
          refine wp_ret ?_
          refine then_r ?_
          refine x_ret (rs := [.tmp 2]) hst rfl (.tmp rfl (.nil)) ?_
          exact ⟨_, rfl, by grind, by grind, by grind⟩
        try simp at hc6
        refine wp_skip ?_
        refine then_n ?_
        refine wp_seq ?_
        refine wp_seq ?_
        refine wp_region_lit ?_
        refine l_op rfl (r_move hst rfl rfl ?_)
        clear hst; intro a hst
        refine l_op rfl (r_bin hst rfl rfl rfl rfl rfl ?_)
        clear hst; intro a hst
        refine wpList_nil ?_
        refine then_n ?_
        refine x_cond hst rfl (fun hc7 => ?_) (fun hc7 => ?_)
        · try simp at hc7
          refine wp_seq ?_
          refine wp_region_lit ?_
          refine l_op rfl (r_assign hst rfl rfl ?_)
          clear hst; intro a hst
          refine wpList_nil ?_
          refine then_n ?_
          refine wp_ret ?_
          refine then_r ?_
          refine x_ret (rs := [.tmp 2]) hst rfl (.tmp rfl (.nil)) ?_
          exact ⟨_, rfl, by grind, by grind, by grind⟩
        try simp at hc7
        refine wp_skip ?_
        refine then_n ?_
        refine wp_seq ?_
        refine wp_seq ?_
        refine wp_region_lit ?_
        refine l_op rfl (r_move hst rfl rfl ?_)
        clear hst; intro a hst
        refine l_op rfl (r_bin hst rfl rfl rfl rfl rfl ?_)
        clear hst; intro a hst
        refine wpList_nil ?_
        refine then_n ?_
        refine x_cond hst rfl (fun hc8 => ?_) (fun hc8 => ?_)
        · try simp at hc8
          refine wp_seq ?_
          refine wp_region_lit ?_
          refine l_op rfl (r_assign hst rfl rfl ?_)
          clear hst; intro a hst
          refine wpList_nil ?_
          refine then_n ?_
          refine wp_ret ?_
          refine then_r ?_
          refine x_ret (rs := [.tmp 2]) hst rfl (.tmp rfl (.nil)) ?_
          exact ⟨_, rfl, by grind, by grind, by grind⟩
        try simp at hc8
        refine wp_skip ?_
        refine then_n ?_
        refine wp_seq ?_
        refine wp_seq ?_
        refine wp_region_lit ?_
        refine l_op rfl (r_move hst rfl rfl ?_)
        clear hst; intro a hst
        refine l_op rfl (r_call (xs := [(Operand.const (Value.string { data := #[61, 124, 63, 60, 43, 45, 42, 40, 41, 95] })), (Operand.tmp 25)]) hst rfl Ten78 (has_c _ _ (by decide)) rfl ?_)
        clear hst; rintro a _ w U ⟨bh, rfl⟩ hst
        refine wpList_nil ?_
        refine then_n ?_
        refine x_cond hst rfl (fun hc9 => ?_) (fun hc9 => ?_)
        · try simp at hc9
          refine wp_seq ?_
          refine wp_region_lit ?_
          refine l_op rfl (r_assign hst rfl rfl ?_)
          clear hst; intro a hst
          refine wpList_nil ?_
          refine then_n ?_
          refine wp_ret ?_
          refine then_r ?_
          refine x_ret (rs := [.tmp 2]) hst rfl (.tmp rfl (.nil)) ?_
          exact ⟨_, rfl, by grind, by grind, by grind⟩
        try simp at hc9
        refine wp_skip ?_
        refine then_n ?_
        refine wp_seq ?_
        refine wp_region_lit ?_
        refine l_op rfl (r_assign hst rfl rfl ?_)
        clear hst; intro a hst
        refine wpList_nil ?_
        refine then_n ?_
        refine wp_ret ?_
        refine x_ret (rs := [.tmp 2]) hst rfl (.tmp rfl (.nil)) ?_
        exact ⟨_, rfl, by grind, by grind, by grind⟩
      try simp at hc5
      refine l_off hst rfl rfl rfl (by decide) rfl rfl ?_
      clear hst; intro a hst
      refine l_off hst rfl rfl rfl (by decide) rfl rfl ?_
      clear hst; intro a hst
      refine l_op rfl (r_pick hst rfl rfl rfl ?_)
      clear hst; intro a hst
      refine wpList_nil ?_
      refine then_n ?_
      refine x_cond_f hst rfl ?_
      refine wp_skip ?_
      refine then_n ?_
      refine wp_seq ?_
      refine wp_seq ?_
      refine wp_region_lit ?_
      refine l_op rfl (r_move hst rfl rfl ?_)
      clear hst; intro a hst
      refine l_op rfl (r_bin hst rfl rfl rfl rfl rfl ?_)
      clear hst; intro a hst
      refine wpList_nil ?_
      refine then_n ?_
      refine x_cond hst rfl (fun hc10 => ?_) (fun hc10 => ?_)
      · try simp at hc10
        refine wp_seq ?_
        refine wp_region_lit ?_
        refine l_op rfl (r_assign hst rfl rfl ?_)
        clear hst; intro a hst
        refine wpList_nil ?_
        refine then_n ?_
        refine wp_ret ?_
        refine then_r ?_
        refine x_ret (rs := [.tmp 2]) hst rfl (.tmp rfl (.nil)) ?_
        exact ⟨_, rfl, by grind, by grind, by grind⟩
      try simp at hc10
      refine wp_skip ?_
      refine then_n ?_
      refine wp_seq ?_
      refine wp_seq ?_
      refine wp_region_lit ?_
      refine l_op rfl (r_move hst rfl rfl ?_)
      clear hst; intro a hst
      refine l_op rfl (r_bin hst rfl rfl rfl rfl rfl ?_)
      clear hst; intro a hst
      refine wpList_nil ?_
      refine then_n ?_
      refine x_cond hst rfl (fun hc11 => ?_) (fun hc11 => ?_)
      · try simp at hc11
        refine wp_seq ?_
        refine wp_region_lit ?_
        refine l_op rfl (r_assign hst rfl rfl ?_)
        clear hst; intro a hst
        refine wpList_nil ?_
        refine then_n ?_
        refine wp_ret ?_
        refine then_r ?_
        refine x_ret (rs := [.tmp 2]) hst rfl (.tmp rfl (.nil)) ?_
        exact ⟨_, rfl, by grind, by grind, by grind⟩
      try simp at hc11
      refine wp_skip ?_
      refine then_n ?_
      refine wp_seq ?_
      refine wp_seq ?_
      refine wp_region_lit ?_
      refine l_op rfl (r_move hst rfl rfl ?_)
      clear hst; intro a hst
      refine l_op rfl (r_call (xs := [(Operand.const (Value.string { data := #[61, 124, 63, 60, 43, 45, 42, 40, 41, 95] })), (Operand.tmp 25)]) hst rfl Ten78 (has_c _ _ (by decide)) rfl ?_)
      clear hst; rintro a _ w U ⟨bh, rfl⟩ hst
      refine wpList_nil ?_
      refine then_n ?_
      refine x_cond hst rfl (fun hc12 => ?_) (fun hc12 => ?_)
      · try simp at hc12
        refine wp_seq ?_
        refine wp_region_lit ?_
        refine l_op rfl (r_assign hst rfl rfl ?_)
        clear hst; intro a hst
        refine wpList_nil ?_
        refine then_n ?_
        refine wp_ret ?_
        refine then_r ?_
        refine x_ret (rs := [.tmp 2]) hst rfl (.tmp rfl (.nil)) ?_
        exact ⟨_, rfl, by grind, by grind, by grind⟩
      try simp at hc12
      refine wp_skip ?_
      refine then_n ?_
      refine wp_seq ?_
      refine wp_region_lit ?_
      refine l_op rfl (r_assign hst rfl rfl ?_)
      clear hst; intro a hst
      refine wpList_nil ?_
      refine then_n ?_
      refine wp_ret ?_
      refine x_ret (rs := [.tmp 2]) hst rfl (.tmp rfl (.nil)) ?_
      exact ⟨_, rfl, by grind, by grind, by grind⟩
    try simp at hc3
    refine l_off hst rfl rfl rfl (by decide) rfl rfl ?_
    clear hst; intro a hst
    refine l_off hst rfl rfl rfl (by decide) rfl rfl ?_
    clear hst; intro a hst
    refine l_op rfl (r_pick hst rfl rfl rfl ?_)
    clear hst; intro a hst
    refine wpList_nil ?_
    refine then_n ?_
    refine x_cond_f hst rfl ?_
    refine wp_skip ?_
    refine then_n ?_
    refine wp_seq ?_
    refine wp_seq ?_
    refine wp_region_lit ?_
    refine l_op rfl (r_move hst rfl rfl ?_)
    clear hst; intro a hst
    refine l_op rfl (r_bin hst rfl rfl rfl rfl rfl ?_)
    clear hst; intro a hst
    refine l_op rfl (r_move hst rfl rfl ?_)
    clear hst; intro a hst
    refine hst.split (t := 17) rfl (fun hc13 hst => ?_) (fun hc13 hst => ?_)
    · try simp at hc13
      refine l_on hst rfl rfl rfl (r_move hst rfl rfl ?_)
      clear hst; intro a hst
      refine l_on hst rfl rfl rfl (r_bin hst rfl rfl rfl rfl rfl ?_)
      clear hst; intro a hst
      refine l_op rfl (r_pick hst rfl rfl rfl ?_)
      clear hst; intro a hst
      refine wpList_nil ?_
      refine then_n ?_
      refine x_cond hst rfl (fun hc14 => ?_) (fun hc14 => ?_)
      · try simp at hc14
        refine wp_seq ?_
        refine wp_region_lit ?_
        refine l_op rfl (r_assign hst rfl rfl ?_)
        clear hst; intro a hst
        refine wpList_nil ?_
        refine then_n ?_
        refine wp_ret ?_
        refine then_r ?_
        refine x_ret (rs := [.tmp 2]) hst rfl (.tmp rfl (.nil)) ?_
        exact ⟨_, rfl, by grind, by grind, by grind⟩
      try simp at hc14
      refine wp_skip ?_
      refine then_n ?_
      refine wp_seq ?_
      refine wp_seq ?_
      refine wp_region_lit ?_
      refine l_op rfl (r_move hst rfl rfl ?_)
      clear hst; intro a hst
      refine l_op rfl (r_bin hst rfl rfl rfl rfl rfl ?_)
      clear hst; intro a hst
      refine wpList_nil ?_
      refine then_n ?_
      refine x_cond hst rfl (fun hc15 => ?_) (fun hc15 => ?_)
      · try simp at hc15
        refine wp_seq ?_
        refine wp_region_lit ?_
        refine l_op rfl (r_assign hst rfl rfl ?_)
        clear hst; intro a hst
        refine wpList_nil ?_
        refine then_n ?_
        refine wp_ret ?_
        refine then_r ?_
        refine x_ret (rs := [.tmp 2]) hst rfl (.tmp rfl (.nil)) ?_
        exact ⟨_, rfl, by grind, by grind, by grind⟩
      try simp at hc15
      refine wp_skip ?_
      refine then_n ?_
      refine wp_seq ?_
      refine wp_seq ?_
      refine wp_region_lit ?_
      refine l_op rfl (r_move hst rfl rfl ?_)
      clear hst; intro a hst
      refine l_op rfl (r_bin hst rfl rfl rfl rfl rfl ?_)
      clear hst; intro a hst
      refine wpList_nil ?_
      refine then_n ?_
      refine x_cond hst rfl (fun hc16 => ?_) (fun hc16 => ?_)
      · try simp at hc16
        refine wp_seq ?_
        refine wp_region_lit ?_
        refine l_op rfl (r_assign hst rfl rfl ?_)
        clear hst; intro a hst
        refine wpList_nil ?_
        refine then_n ?_
        refine wp_ret ?_
        refine then_r ?_
        refine x_ret (rs := [.tmp 2]) hst rfl (.tmp rfl (.nil)) ?_
        exact ⟨_, rfl, by grind, by grind, by grind⟩
      try simp at hc16
      refine wp_skip ?_
      refine then_n ?_
      refine wp_seq ?_
      refine wp_seq ?_
      refine wp_region_lit ?_
      refine l_op rfl (r_move hst rfl rfl ?_)
      clear hst; intro a hst
      refine l_op rfl (r_call (xs := [(Operand.const (Value.string { data := #[61, 124, 63, 60, 43, 45, 42, 40, 41, 95] })), (Operand.tmp 25)]) hst rfl Ten78 (has_c _ _ (by decide)) rfl ?_)
      clear hst; rintro a _ w U ⟨bh, rfl⟩ hst
      refine wpList_nil ?_
      refine then_n ?_
      refine x_cond hst rfl (fun hc17 => ?_) (fun hc17 => ?_)
      · try simp at hc17
        refine wp_seq ?_
        refine wp_region_lit ?_
        refine l_op rfl (r_assign hst rfl rfl ?_)
        clear hst; intro a hst
        refine wpList_nil ?_
        refine then_n ?_
        refine wp_ret ?_
        refine then_r ?_
        refine x_ret (rs := [.tmp 2]) hst rfl (.tmp rfl (.nil)) ?_
        exact ⟨_, rfl, by grind, by grind, by grind⟩
      try simp at hc17
      refine wp_skip ?_
      refine then_n ?_
      refine wp_seq ?_
      refine wp_region_lit ?_
      refine l_op rfl (r_assign hst rfl rfl ?_)
      clear hst; intro a hst
      refine wpList_nil ?_
      refine then_n ?_
      refine wp_ret ?_
      refine x_ret (rs := [.tmp 2]) hst rfl (.tmp rfl (.nil)) ?_
      exact ⟨_, rfl, by grind, by grind, by grind⟩
    try simp at hc13
    refine l_off hst rfl rfl rfl (by decide) rfl rfl ?_
    clear hst; intro a hst
    refine l_off hst rfl rfl rfl (by decide) rfl rfl ?_
    clear hst; intro a hst
    refine l_op rfl (r_pick hst rfl rfl rfl ?_)
    clear hst; intro a hst
    refine wpList_nil ?_
    refine then_n ?_
    refine x_cond_f hst rfl ?_
    refine wp_skip ?_
    refine then_n ?_
    refine wp_seq ?_
    refine wp_seq ?_
    refine wp_region_lit ?_
    refine l_op rfl (r_move hst rfl rfl ?_)
    clear hst; intro a hst
    refine l_op rfl (r_bin hst rfl rfl rfl rfl rfl ?_)
    clear hst; intro a hst
    refine wpList_nil ?_
    refine then_n ?_
    refine x_cond hst rfl (fun hc18 => ?_) (fun hc18 => ?_)
    · try simp at hc18
      refine wp_seq ?_
      refine wp_region_lit ?_
      refine l_op rfl (r_assign hst rfl rfl ?_)
      clear hst; intro a hst
      refine wpList_nil ?_
      refine then_n ?_
      refine wp_ret ?_
      refine then_r ?_
      refine x_ret (rs := [.tmp 2]) hst rfl (.tmp rfl (.nil)) ?_
      exact ⟨_, rfl, by grind, by grind, by grind⟩
    try simp at hc18
    refine wp_skip ?_
    refine then_n ?_
    refine wp_seq ?_
    refine wp_seq ?_
    refine wp_region_lit ?_
    refine l_op rfl (r_move hst rfl rfl ?_)
    clear hst; intro a hst
    refine l_op rfl (r_bin hst rfl rfl rfl rfl rfl ?_)
    clear hst; intro a hst
    refine wpList_nil ?_
    refine then_n ?_
    refine x_cond hst rfl (fun hc19 => ?_) (fun hc19 => ?_)
    · try simp at hc19
      refine wp_seq ?_
      refine wp_region_lit ?_
      refine l_op rfl (r_assign hst rfl rfl ?_)
      clear hst; intro a hst
      refine wpList_nil ?_
      refine then_n ?_
      refine wp_ret ?_
      refine then_r ?_
      refine x_ret (rs := [.tmp 2]) hst rfl (.tmp rfl (.nil)) ?_
      exact ⟨_, rfl, by grind, by grind, by grind⟩
    try simp at hc19
    refine wp_skip ?_
    refine then_n ?_
    refine wp_seq ?_
    refine wp_seq ?_
    refine wp_region_lit ?_
    refine l_op rfl (r_move hst rfl rfl ?_)
    clear hst; intro a hst
    refine l_op rfl (r_call (xs := [(Operand.const (Value.string { data := #[61, 124, 63, 60, 43, 45, 42, 40, 41, 95] })), (Operand.tmp 25)]) hst rfl Ten78 (has_c _ _ (by decide)) rfl ?_)
    clear hst; rintro a _ w U ⟨bh, rfl⟩ hst
    refine wpList_nil ?_
    refine then_n ?_
    refine x_cond hst rfl (fun hc20 => ?_) (fun hc20 => ?_)
    · try simp at hc20
      refine wp_seq ?_
      refine wp_region_lit ?_
      refine l_op rfl (r_assign hst rfl rfl ?_)
      clear hst; intro a hst
      refine wpList_nil ?_
      refine then_n ?_
      refine wp_ret ?_
      refine then_r ?_
      refine x_ret (rs := [.tmp 2]) hst rfl (.tmp rfl (.nil)) ?_
      exact ⟨_, rfl, by grind, by grind, by grind⟩
    try simp at hc20
    refine wp_skip ?_
    refine then_n ?_
    refine wp_seq ?_
    refine wp_region_lit ?_
    refine l_op rfl (r_assign hst rfl rfl ?_)
    clear hst; intro a hst
    refine wpList_nil ?_
    refine then_n ?_
    refine wp_ret ?_
    refine x_ret (rs := [.tmp 2]) hst rfl (.tmp rfl (.nil)) ?_
    exact ⟨_, rfl, by grind, by grind, by grind⟩
  try simp at hc1
  refine l_off hst rfl rfl rfl (by decide) rfl rfl ?_
  clear hst; intro a hst
  refine l_off hst rfl rfl rfl (by decide) rfl rfl ?_
  clear hst; intro a hst
  refine l_op rfl (r_pick hst rfl rfl rfl ?_)
  clear hst; intro a hst
  refine wpList_nil ?_
  refine then_n ?_
  refine x_cond_f hst rfl ?_
  refine wp_skip ?_
  refine then_n ?_
  refine wp_seq ?_
  refine wp_seq ?_
  refine wp_region_lit ?_
  refine l_op rfl (r_move hst rfl rfl ?_)
  clear hst; intro a hst
  refine l_op rfl (r_bin hst rfl rfl rfl rfl rfl ?_)
  clear hst; intro a hst
  refine l_op rfl (r_move hst rfl rfl ?_)
  clear hst; intro a hst
  refine hst.split (t := 11) rfl (fun hc21 hst => ?_) (fun hc21 hst => ?_)
  · try simp at hc21
    refine l_on hst rfl rfl rfl (r_move hst rfl rfl ?_)
    clear hst; intro a hst
    refine l_on hst rfl rfl rfl (r_bin hst rfl rfl rfl rfl rfl ?_)
    clear hst; intro a hst
    refine l_op rfl (r_pick hst rfl rfl rfl ?_)
    clear hst; intro a hst
    refine wpList_nil ?_
    refine then_n ?_
    refine x_cond hst rfl (fun hc22 => ?_) (fun hc22 => ?_)
    · try simp at hc22
      refine wp_seq ?_
      refine wp_region_lit ?_
      refine l_op rfl (r_assign hst rfl rfl ?_)
      clear hst; intro a hst
      refine wpList_nil ?_
      refine then_n ?_
      refine wp_ret ?_
      refine then_r ?_
      refine x_ret (rs := [.tmp 2]) hst rfl (.tmp rfl (.nil)) ?_
      exact ⟨_, rfl, by grind, by grind, by grind⟩
    try simp at hc22
    refine wp_skip ?_
    refine then_n ?_
    refine wp_seq ?_
    refine wp_seq ?_
    refine wp_region_lit ?_
    refine l_op rfl (r_move hst rfl rfl ?_)
    clear hst; intro a hst
    refine l_op rfl (r_bin hst rfl rfl rfl rfl rfl ?_)
    clear hst; intro a hst
    refine l_op rfl (r_move hst rfl rfl ?_)
    clear hst; intro a hst
    refine hst.split (t := 17) rfl (fun hc23 hst => ?_) (fun hc23 hst => ?_)
    · try simp at hc23
      refine l_on hst rfl rfl rfl (r_move hst rfl rfl ?_)
      clear hst; intro a hst
      refine l_on hst rfl rfl rfl (r_bin hst rfl rfl rfl rfl rfl ?_)
      clear hst; intro a hst
      refine l_op rfl (r_pick hst rfl rfl rfl ?_)
      clear hst; intro a hst
      refine wpList_nil ?_
      refine then_n ?_
      refine x_cond hst rfl (fun hc24 => ?_) (fun hc24 => ?_)
      · try simp at hc24
        refine wp_seq ?_
        refine wp_region_lit ?_
        refine l_op rfl (r_assign hst rfl rfl ?_)
        clear hst; intro a hst
        refine wpList_nil ?_
        refine then_n ?_
        refine wp_ret ?_
        refine then_r ?_
        refine x_ret (rs := [.tmp 2]) hst rfl (.tmp rfl (.nil)) ?_
        exact ⟨_, rfl, by grind, by grind, by grind⟩
      try simp at hc24
      refine wp_skip ?_
      refine then_n ?_
      refine wp_seq ?_
      refine wp_seq ?_
      refine wp_region_lit ?_
      refine l_op rfl (r_move hst rfl rfl ?_)
      clear hst; intro a hst
      refine l_op rfl (r_bin hst rfl rfl rfl rfl rfl ?_)
      clear hst; intro a hst
      refine wpList_nil ?_
      refine then_n ?_
      refine x_cond hst rfl (fun hc25 => ?_) (fun hc25 => ?_)
      · try simp at hc25
        refine wp_seq ?_
        refine wp_region_lit ?_
        refine l_op rfl (r_assign hst rfl rfl ?_)
        clear hst; intro a hst
        refine wpList_nil ?_
        refine then_n ?_
        refine wp_ret ?_
        refine then_r ?_
        refine x_ret (rs := [.tmp 2]) hst rfl (.tmp rfl (.nil)) ?_
        exact ⟨_, rfl, by grind, by grind, by grind⟩
      try simp at hc25
      refine wp_skip ?_
      refine then_n ?_
      refine wp_seq ?_
      refine wp_seq ?_
      refine wp_region_lit ?_
      refine l_op rfl (r_move hst rfl rfl ?_)
      clear hst; intro a hst
      refine l_op rfl (r_bin hst rfl rfl rfl rfl rfl ?_)
      clear hst; intro a hst
      refine wpList_nil ?_
      refine then_n ?_
      refine x_cond hst rfl (fun hc26 => ?_) (fun hc26 => ?_)
      · try simp at hc26
        refine wp_seq ?_
        refine wp_region_lit ?_
        refine l_op rfl (r_assign hst rfl rfl ?_)
        clear hst; intro a hst
        refine wpList_nil ?_
        refine then_n ?_
        refine wp_ret ?_
        refine then_r ?_
        refine x_ret (rs := [.tmp 2]) hst rfl (.tmp rfl (.nil)) ?_
        exact ⟨_, rfl, by grind, by grind, by grind⟩
      try simp at hc26
      refine wp_skip ?_
      refine then_n ?_
      refine wp_seq ?_
      refine wp_seq ?_
      refine wp_region_lit ?_
      refine l_op rfl (r_move hst rfl rfl ?_)
      clear hst; intro a hst
      refine l_op rfl (r_call (xs := [(Operand.const (Value.string { data := #[61, 124, 63, 60, 43, 45, 42, 40, 41, 95] })), (Operand.tmp 25)]) hst rfl Ten78 (has_c _ _ (by decide)) rfl ?_)
      clear hst; rintro a _ w U ⟨bh, rfl⟩ hst
      refine wpList_nil ?_
      refine then_n ?_
      refine x_cond hst rfl (fun hc27 => ?_) (fun hc27 => ?_)
      · try simp at hc27
        refine wp_seq ?_
        refine wp_region_lit ?_
        refine l_op rfl (r_assign hst rfl rfl ?_)
        clear hst; intro a hst
        refine wpList_nil ?_
        refine then_n ?_
        refine wp_ret ?_
        refine then_r ?_
        refine x_ret (rs := [.tmp 2]) hst rfl (.tmp rfl (.nil)) ?_
        exact ⟨_, rfl, by grind, by grind, by grind⟩
      try simp at hc27
      refine wp_skip ?_
      refine then_n ?_
      refine wp_seq ?_
      refine wp_region_lit ?_
      refine l_op rfl (r_assign hst rfl rfl ?_)
      clear hst; intro a hst
      refine wpList_nil ?_
      refine then_n ?_
      refine wp_ret ?_
      refine x_ret (rs := [.tmp 2]) hst rfl (.tmp rfl (.nil)) ?_
      exact ⟨_, rfl, by grind, by grind, by grind⟩
    try simp at hc23
    refine l_off hst rfl rfl rfl (by decide) rfl rfl ?_
    clear hst; intro a hst
    refine l_off hst rfl rfl rfl (by decide) rfl rfl ?_
    clear hst; intro a hst
    refine l_op rfl (r_pick hst rfl rfl rfl ?_)
    clear hst; intro a hst
    refine wpList_nil ?_
    refine then_n ?_
    refine x_cond_f hst rfl ?_
    refine wp_skip ?_
    refine then_n ?_
    refine wp_seq ?_
    refine wp_seq ?_
    refine wp_region_lit ?_
    refine l_op rfl (r_move hst rfl rfl ?_)
    clear hst; intro a hst
    refine l_op rfl (r_bin hst rfl rfl rfl rfl rfl ?_)
    clear hst; intro a hst
    refine wpList_nil ?_
    refine then_n ?_
    refine x_cond hst rfl (fun hc28 => ?_) (fun hc28 => ?_)
    · try simp at hc28
      refine wp_seq ?_
      refine wp_region_lit ?_
      refine l_op rfl (r_assign hst rfl rfl ?_)
      clear hst; intro a hst
      refine wpList_nil ?_
      refine then_n ?_
      refine wp_ret ?_
      refine then_r ?_
      refine x_ret (rs := [.tmp 2]) hst rfl (.tmp rfl (.nil)) ?_
      exact ⟨_, rfl, by grind, by grind, by grind⟩
    try simp at hc28
    refine wp_skip ?_
    refine then_n ?_
    refine wp_seq ?_
    refine wp_seq ?_
    refine wp_region_lit ?_
    refine l_op rfl (r_move hst rfl rfl ?_)
    clear hst; intro a hst
    refine l_op rfl (r_bin hst rfl rfl rfl rfl rfl ?_)
    clear hst; intro a hst
    refine wpList_nil ?_
    refine then_n ?_
    refine x_cond hst rfl (fun hc29 => ?_) (fun hc29 => ?_)
    · try simp at hc29
      refine wp_seq ?_
      refine wp_region_lit ?_
      refine l_op rfl (r_assign hst rfl rfl ?_)
      clear hst; intro a hst
      refine wpList_nil ?_
      refine then_n ?_
      refine wp_ret ?_
      refine then_r ?_
      refine x_ret (rs := [.tmp 2]) hst rfl (.tmp rfl (.nil)) ?_
      exact ⟨_, rfl, by grind, by grind, by grind⟩
    try simp at hc29
    refine wp_skip ?_
    refine then_n ?_
    refine wp_seq ?_
    refine wp_seq ?_
    refine wp_region_lit ?_
    refine l_op rfl (r_move hst rfl rfl ?_)
    clear hst; intro a hst
    refine l_op rfl (r_call (xs := [(Operand.const (Value.string { data := #[61, 124, 63, 60, 43, 45, 42, 40, 41, 95] })), (Operand.tmp 25)]) hst rfl Ten78 (has_c _ _ (by decide)) rfl ?_)
    clear hst; rintro a _ w U ⟨bh, rfl⟩ hst
    refine wpList_nil ?_
    refine then_n ?_
    refine x_cond hst rfl (fun hc30 => ?_) (fun hc30 => ?_)
    · try simp at hc30
      refine wp_seq ?_
      refine wp_region_lit ?_
      refine l_op rfl (r_assign hst rfl rfl ?_)
      clear hst; intro a hst
      refine wpList_nil ?_
      refine then_n ?_
      refine wp_ret ?_
      refine then_r ?_
      refine x_ret (rs := [.tmp 2]) hst rfl (.tmp rfl (.nil)) ?_
      exact ⟨_, rfl, by grind, by grind, by grind⟩
    try simp at hc30
    refine wp_skip ?_
    refine then_n ?_
    refine wp_seq ?_
    refine wp_region_lit ?_
    refine l_op rfl (r_assign hst rfl rfl ?_)
    clear hst; intro a hst
    refine wpList_nil ?_
    refine then_n ?_
    refine wp_ret ?_
    refine x_ret (rs := [.tmp 2]) hst rfl (.tmp rfl (.nil)) ?_
    exact ⟨_, rfl, by grind, by grind, by grind⟩
  try simp at hc21
  refine l_off hst rfl rfl rfl (by decide) rfl rfl ?_
  clear hst; intro a hst
  refine l_off hst rfl rfl rfl (by decide) rfl rfl ?_
  clear hst; intro a hst
  refine l_op rfl (r_pick hst rfl rfl rfl ?_)
  clear hst; intro a hst
  refine wpList_nil ?_
  refine then_n ?_
  refine x_cond_f hst rfl ?_
  refine wp_skip ?_
  refine then_n ?_
  refine wp_seq ?_
  refine wp_seq ?_
  refine wp_region_lit ?_
  refine l_op rfl (r_move hst rfl rfl ?_)
  clear hst; intro a hst
  refine l_op rfl (r_bin hst rfl rfl rfl rfl rfl ?_)
  clear hst; intro a hst
  refine l_op rfl (r_move hst rfl rfl ?_)
  clear hst; intro a hst
  refine hst.split (t := 17) rfl (fun hc31 hst => ?_) (fun hc31 hst => ?_)
  · try simp at hc31
    refine l_on hst rfl rfl rfl (r_move hst rfl rfl ?_)
    clear hst; intro a hst
    refine l_on hst rfl rfl rfl (r_bin hst rfl rfl rfl rfl rfl ?_)
    clear hst; intro a hst
    refine l_op rfl (r_pick hst rfl rfl rfl ?_)
    clear hst; intro a hst
    refine wpList_nil ?_
    refine then_n ?_
    refine x_cond hst rfl (fun hc32 => ?_) (fun hc32 => ?_)
    · try simp at hc32
      refine wp_seq ?_
      refine wp_region_lit ?_
      refine l_op rfl (r_assign hst rfl rfl ?_)
      clear hst; intro a hst
      refine wpList_nil ?_
      refine then_n ?_
      refine wp_ret ?_
      refine then_r ?_
      refine x_ret (rs := [.tmp 2]) hst rfl (.tmp rfl (.nil)) ?_
      exact ⟨_, rfl, by grind, by grind, by grind⟩
    try simp at hc32
    refine wp_skip ?_
    refine then_n ?_
    refine wp_seq ?_
    refine wp_seq ?_
    refine wp_region_lit ?_
    refine l_op rfl (r_move hst rfl rfl ?_)
    clear hst; intro a hst
    refine l_op rfl (r_bin hst rfl rfl rfl rfl rfl ?_)
    clear hst; intro a hst
    refine wpList_nil ?_
    refine then_n ?_
    refine x_cond hst rfl (fun hc33 => ?_) (fun hc33 => ?_)
    · try simp at hc33
      refine wp_seq ?_
      refine wp_region_lit ?_
      refine l_op rfl (r_assign hst rfl rfl ?_)
      clear hst; intro a hst
      refine wpList_nil ?_
      refine then_n ?_
      refine wp_ret ?_
      refine then_r ?_
      refine x_ret (rs := [.tmp 2]) hst rfl (.tmp rfl (.nil)) ?_
      exact ⟨_, rfl, by grind, by grind, by grind⟩
    try simp at hc33
    refine wp_skip ?_
    refine then_n ?_
    refine wp_seq ?_
    refine wp_seq ?_
    refine wp_region_lit ?_
    refine l_op rfl (r_move hst rfl rfl ?_)
    clear hst; intro a hst
    refine l_op rfl (r_bin hst rfl rfl rfl rfl rfl ?_)
    clear hst; intro a hst
    refine wpList_nil ?_
    refine then_n ?_
    refine x_cond hst rfl (fun hc34 => ?_) (fun hc34 => ?_)
    · try simp at hc34
      refine wp_seq ?_
      refine wp_region_lit ?_
      refine l_op rfl (r_assign hst rfl rfl ?_)
      clear hst; intro a hst
      refine wpList_nil ?_
      refine then_n ?_
      refine wp_ret ?_
      refine then_r ?_
      refine x_ret (rs := [.tmp 2]) hst rfl (.tmp rfl (.nil)) ?_
      exact ⟨_, rfl, by grind, by grind, by grind⟩
    try simp at hc34
    refine wp_skip ?_
    refine then_n ?_
    refine wp_seq ?_
    refine wp_seq ?_
    refine wp_region_lit ?_
    refine l_op rfl (r_move hst rfl rfl ?_)
    clear hst; intro a hst
    refine l_op rfl (r_call (xs := [(Operand.const (Value.string { data := #[61, 124, 63, 60, 43, 45, 42, 40, 41, 95] })), (Operand.tmp 25)]) hst rfl Ten78 (has_c _ _ (by decide)) rfl ?_)
    clear hst; rintro a _ w U ⟨bh, rfl⟩ hst
    refine wpList_nil ?_
    refine then_n ?_
    refine x_cond hst rfl (fun hc35 => ?_) (fun hc35 => ?_)
    · try simp at hc35
      refine wp_seq ?_
      refine wp_region_lit ?_
      refine l_op rfl (r_assign hst rfl rfl ?_)
      clear hst; intro a hst
      refine wpList_nil ?_
      refine then_n ?_
      refine wp_ret ?_
      refine then_r ?_
      refine x_ret (rs := [.tmp 2]) hst rfl (.tmp rfl (.nil)) ?_
      exact ⟨_, rfl, by grind, by grind, by grind⟩
    try simp at hc35
    refine wp_skip ?_
    refine then_n ?_
    refine wp_seq ?_
    refine wp_region_lit ?_
    refine l_op rfl (r_assign hst rfl rfl ?_)
    clear hst; intro a hst
    refine wpList_nil ?_
    refine then_n ?_
    refine wp_ret ?_
    refine x_ret (rs := [.tmp 2]) hst rfl (.tmp rfl (.nil)) ?_
    exact ⟨_, rfl, by grind, by grind, by grind⟩
  try simp at hc31
  refine l_off hst rfl rfl rfl (by decide) rfl rfl ?_
  clear hst; intro a hst
  refine l_off hst rfl rfl rfl (by decide) rfl rfl ?_
  clear hst; intro a hst
  refine l_op rfl (r_pick hst rfl rfl rfl ?_)
  clear hst; intro a hst
  refine wpList_nil ?_
  refine then_n ?_
  refine x_cond_f hst rfl ?_
  refine wp_skip ?_
  refine then_n ?_
  refine wp_seq ?_
  refine wp_seq ?_
  refine wp_region_lit ?_
  refine l_op rfl (r_move hst rfl rfl ?_)
  clear hst; intro a hst
  refine l_op rfl (r_bin hst rfl rfl rfl rfl rfl ?_)
  clear hst; intro a hst
  refine wpList_nil ?_
  refine then_n ?_
  refine x_cond hst rfl (fun hc36 => ?_) (fun hc36 => ?_)
  · try simp at hc36
    refine wp_seq ?_
    refine wp_region_lit ?_
    refine l_op rfl (r_assign hst rfl rfl ?_)
    clear hst; intro a hst
    refine wpList_nil ?_
    refine then_n ?_
    refine wp_ret ?_
    refine then_r ?_
    refine x_ret (rs := [.tmp 2]) hst rfl (.tmp rfl (.nil)) ?_
    exact ⟨_, rfl, by grind, by grind, by grind⟩
  try simp at hc36
  refine wp_skip ?_
  refine then_n ?_
  refine wp_seq ?_
  refine wp_seq ?_
  refine wp_region_lit ?_
  refine l_op rfl (r_move hst rfl rfl ?_)
  clear hst; intro a hst
  refine l_op rfl (r_bin hst rfl rfl rfl rfl rfl ?_)
  clear hst; intro a hst
  refine wpList_nil ?_
  refine then_n ?_
  refine x_cond hst rfl (fun hc37 => ?_) (fun hc37 => ?_)
  · try simp at hc37
    refine wp_seq ?_
    refine wp_region_lit ?_
    refine l_op rfl (r_assign hst rfl rfl ?_)
    clear hst; intro a hst
    refine wpList_nil ?_
    refine then_n ?_
    refine wp_ret ?_
    refine then_r ?_
    refine x_ret (rs := [.tmp 2]) hst rfl (.tmp rfl (.nil)) ?_
    exact ⟨_, rfl, by grind, by grind, by grind⟩
  try simp at hc37
  refine wp_skip ?_
  refine then_n ?_
  refine wp_seq ?_
  refine wp_seq ?_
  refine wp_region_lit ?_
  refine l_op rfl (r_move hst rfl rfl ?_)
  clear hst; intro a hst
  refine l_op rfl (r_call (xs := [(Operand.const (Value.string { data := #[61, 124, 63, 60, 43, 45, 42, 40, 41, 95] })), (Operand.tmp 25)]) hst rfl Ten78 (has_c _ _ (by decide)) rfl ?_)
  clear hst; rintro a _ w U ⟨bh, rfl⟩ hst
  refine wpList_nil ?_
  refine then_n ?_
  refine x_cond hst rfl (fun hc38 => ?_) (fun hc38 => ?_)
  · try simp at hc38
    refine wp_seq ?_
    refine wp_region_lit ?_
    refine l_op rfl (r_assign hst rfl rfl ?_)
    clear hst; intro a hst
    refine wpList_nil ?_
    refine then_n ?_
    refine wp_ret ?_
    refine then_r ?_
    refine x_ret (rs := [.tmp 2]) hst rfl (.tmp rfl (.nil)) ?_
    exact ⟨_, rfl, by grind, by grind, by grind⟩
  try simp at hc38
  refine wp_skip ?_
  refine then_n ?_
  refine wp_seq ?_
  refine wp_region_lit ?_
  refine l_op rfl (r_assign hst rfl rfl ?_)
  clear hst; intro a hst
  refine wpList_nil ?_
  refine then_n ?_
  refine wp_ret ?_
  refine x_ret (rs := [.tmp 2]) hst rfl (.tmp rfl (.nil)) ?_
  exact ⟨_, rfl, by grind, by grind, by grind⟩

def InvIn (w0 : World) (U0 : Mk) (A : Option Addr) (m c : Nat) (ts : List (List UInt8)) (s : ByteArray) (mz : Nat) (a : Act) (w : World) : Prop :=
  ∃ (U : Mk) (i : Int), Sta w0 U0 17 [(1, .string s), (7, .slice A m c), (8, .int .i64 (m : Int)), (9, .int .i64 i)] [] [] (Sl kS (.slice A m c) ts) a w U ∧ 0 ≤ i ∧ i ≤ m ∧ mz = ((m : Int) - i).toNat

theorem in_c {w : World} {U : Mk} {A : Option Addr} {m c : Nat} (ts : List (List UInt8)) (s : ByteArray) (hm : m ≤ 1000000) (hF : Sl kS (.slice A m c) ts w U) :
    CallsS Tryz.prog 79 [.slice A m c, .string s] w U (fun v _ _ => ∃ b : Bool, v = .bool b) := by
  refine x_enter (F := Sl kS (.slice A m c) ts) (n := 17) Tryz.func79 rfl rfl (by simp) (.cons (d := 0) rfl (.cons (d := 1) rfl (.nil))) (Sl.mono _ _ _) (hF) ?_
  intro a hst
  refine wp_seq ?_
  refine wp_region_lit ?_
  refine l_op rfl (r_assign hst rfl rfl ?_)
  clear hst; intro a hst
  refine wpList_nil ?_
  refine then_n ?_
  refine wp_seq ?_
  refine wp_seq ?_
  refine wp_region_lit ?_
  refine l_op rfl (r_move hst rfl rfl ?_)
  clear hst; intro a hst
  refine l_op rfl (r_lensl hst rfl Tu39 rfl ?_)
  clear hst; intro a hst
  refine l_op rfl (r_move hst rfl rfl ?_)
  clear hst; intro a hst
  refine wpList_nil ?_
  refine then_n ?_
  refine wp_block ?_
  have hst := ((hst.keep (ds := [1, 7, 8, 9]) (.cons rfl (.cons rfl (.cons rfl (.cons rfl (.nil)))))).drop (.slnil))
  refine wp_loop_ghost (InvIn _ _ A m c ts s) (m) ⟨_, 0, hst, by omega, by omega, by omega⟩ ?_
  clear hst
  rintro mz a w ⟨U, i, hst, hi0, hi1, rfl⟩
  refine wp_seq ?_
  refine wp_region_lit ?_
  refine l_op rfl (r_bin hst rfl rfl rfl rfl rfl ?_)
  clear hst; intro a hst
  refine wpList_nil ?_
  refine then_n ?_
  refine wp_seq ?_
  refine x_cond hst rfl (fun hc1 => ?_) (fun hc1 => ?_)
  · try simp at hc1
    refine wp_skip ?_
    refine then_n ?_
    refine wp_seq ?_
    refine wp_block ?_
    refine wp_seq ?_
    obtain ⟨_, _, hat⟩ := hst.fact.at
    obtain ⟨g, o, cs, t, rfl, _, _, ⟨s', rfl, _⟩, hel⟩ := hat i.toNat (by omega)
    refine wp_region_lit ?_
    refine l_op rfl (r_indexAddr hst rfl rfl Tu39 Tsz9 (hi0) (by omega) rfl ?_)
    clear hst; intro a hst
    refine l_op rfl (r_loads' hst rfl Ts9 ((hel 0 _ rfl).2) rfl ?_)
    clear hst; intro a hst
    refine l_op rfl (r_assign hst rfl rfl ?_)
    clear hst; intro a hst
    refine wpList_nil ?_
    refine then_n ?_
    refine wp_seq ?_
    refine wp_region_lit ?_
    refine l_op rfl (r_move hst rfl rfl ?_)
    clear hst; intro a hst
    refine l_op rfl (r_move hst rfl rfl ?_)
    clear hst; intro a hst
    refine l_op rfl (r_bin hst rfl rfl rfl rfl rfl ?_)
    clear hst; intro a hst
    refine wpList_nil ?_
    refine then_n ?_
    refine x_cond hst rfl (fun hc2 => ?_) (fun hc2 => ?_)
    · try simp at hc2
      refine wp_seq ?_
      refine wp_region_lit ?_
      refine l_op rfl (r_assign hst rfl rfl ?_)
      clear hst; intro a hst
      refine wpList_nil ?_
      refine then_n ?_
      refine wp_ret ?_
      refine inb_r ?_
      refine then_r ?_
      refine then_r ?_
      refine inb_r ?_
      refine then_r ?_
      refine x_ret (rs := [.tmp 4]) hst rfl (.tmp rfl (.nil)) ?_
      exact ⟨_, rfl⟩
    try simp at hc2
    refine wp_skip ?_
    refine inb_n ?_
    refine then_n ?_
    refine wp_region_lit ?_
    refine l_op rfl (r_bin hst rfl rfl rfl rfl rfl ?_)
    clear hst; intro a hst
    rw [wrap_in _ (by omega) (by omega)] at hst
    refine l_op rfl (r_move hst rfl rfl ?_)
    clear hst; intro a hst
    refine wpList_nil ?_
    have hst := ((hst.keep (ds := [1, 7, 8, 9]) (.cons rfl (.cons rfl (.cons rfl (.cons rfl (.nil)))))).drop (.slnil))
    exact then_k ⟨_, by omega, _, _, hst, by omega, by omega, rfl⟩
  try simp at hc1
  refine wp_exit ?_
  refine then_x ?_
  refine then_x ?_
  refine inb_hit ?_
  refine then_n ?_
  refine wp_seq ?_
  refine wp_region_lit ?_
  refine l_op rfl (r_assign hst rfl rfl ?_)
  clear hst; intro a hst
  refine wpList_nil ?_
  refine then_n ?_
  refine wp_ret ?_
  refine x_ret (rs := [.tmp 4]) hst rfl (.tmp rfl (.nil)) ?_
  exact ⟨_, rfl⟩

theorem key_c {w : World} {U : Mk} (s : ByteArray) :
    CallsS Tryz.prog 57 [.string s] w U (fun v _ _ => ∃ b : Bool, v = .bool b) := by
  refine x_enter (F := fun _ _ => True) (n := 6) Tryz.func57 rfl rfl (by simp) (.cons (d := 0) rfl (.nil)) (Mono.true_) (trivial) ?_
  intro a hst
  refine wp_seq ?_
  refine wp_region_lit ?_
  refine l_op rfl (r_assign hst rfl rfl ?_)
  clear hst; intro a hst
  refine wpList_nil ?_
  refine then_n ?_
  refine wp_seq ?_
  refine wp_region_lit ?_
  refine l_op rfl (r_sliceN (m := 7) (ps := [(0, (Operand.const (Value.string { data := #[100, 97, 116, 97] }))), (1, (Operand.const (Value.string { data := #[108, 101, 116] }))), (2, (Operand.const (Value.string { data := #[102, 114, 101, 101] }))), (3, (Operand.const (Value.string { data := #[105, 110] }))), (4, (Operand.const (Value.string { data := #[105, 102] }))), (5, (Operand.const (Value.string { data := #[116, 104, 101, 110] }))), (6, (Operand.const (Value.string { data := #[101, 108, 115, 101] })))]) hst Tu39 Tsz9 Tz9 (zs := [.string ⟨#[]⟩, .string ⟨#[]⟩, .string ⟨#[]⟩, .string ⟨#[]⟩, .string ⟨#[]⟩, .string ⟨#[]⟩, .string ⟨#[]⟩]) rfl rfl (by decide) (by decide) (.cons rfl rfl rfl rfl (.here (.nil (Nat.zero_le _))) (.cons rfl rfl rfl rfl (.there (.here (.nil (Nat.zero_le _)))) (.cons rfl rfl rfl rfl (.there (.there (.here (.nil (Nat.zero_le _))))) (.cons rfl rfl rfl rfl (.there (.there (.there (.here (.nil (Nat.zero_le _)))))) (.cons rfl rfl rfl rfl (.there (.there (.there (.there (.here (.nil (Nat.zero_le _))))))) (.cons rfl rfl rfl rfl (.there (.there (.there (.there (.there (.here (.nil (Nat.zero_le _)))))))) (.cons rfl rfl rfl rfl (.there (.there (.there (.there (.there (.there (.here (.nil (Nat.zero_le _))))))))) (.nil)))))))) rfl ?_)
  clear hst; intro a w g1 hst
  refine l_op rfl (r_move hst rfl rfl ?_)
  clear hst; intro a hst
  obtain ⟨U, hext, hcont, hst⟩ := hst.settle_ (.head)
  obtain ⟨ts, hsl⟩ := strs_sl (hcont 7 7) rfl rfl (by decide)
  refine l_op rfl (r_call (xs := [(Operand.tmp 3), (Operand.tmp 4)]) hst rfl Ten79 (in_c ts _ (by decide) hsl) rfl ?_)
  clear hst; rintro a _ w U ⟨bi, rfl⟩ hst
  refine l_op rfl (r_assign hst rfl rfl ?_)
  clear hst; intro a hst
  refine wpList_nil ?_
  refine then_n ?_
  refine wp_ret ?_
  refine x_ret (rs := [.tmp 2]) hst rfl (.tmp rfl (.nil)) ?_
  exact ⟨_, rfl⟩

theorem symbols_c {w : World} {U : Mk}  :
    CallsS Tryz.prog 60 [] w U (fun v w' U' => ∃ (A : Option Addr) (m c : Nat) (ts : List (List UInt8)), v = .slice A m c ∧ m ≤ 11 ∧ Sl kN (.slice A m c) ts w' U') := by
  refine x_enter (F := fun _ _ => True) (n := 2) Tryz.func60 rfl rfl (by simp) (.nil) (Mono.true_) (trivial) ?_
  intro a hst
  refine wp_seq ?_
  refine wp_region_lit ?_
  refine l_op rfl (r_assign hst rfl rfl ?_)
  clear hst; intro a hst
  refine wpList_nil ?_
  refine then_n ?_
  refine wp_seq ?_
  refine wp_region_lit ?_
  refine l_op rfl (r_sliceN (m := 11) (ps := [(0, (Operand.const (Value.string { data := #[61, 61] }))), (1, (Operand.const (Value.string { data := #[61] }))), (2, (Operand.const (Value.string { data := #[124] }))), (3, (Operand.const (Value.string { data := #[63] }))), (4, (Operand.const (Value.string { data := #[60] }))), (5, (Operand.const (Value.string { data := #[43] }))), (6, (Operand.const (Value.string { data := #[45] }))), (7, (Operand.const (Value.string { data := #[42] }))), (8, (Operand.const (Value.string { data := #[40] }))), (9, (Operand.const (Value.string { data := #[41] }))), (10, (Operand.const (Value.string { data := #[95] })))]) hst Tu39 Tsz9 Tz9 (zs := [.string ⟨#[]⟩, .string ⟨#[]⟩, .string ⟨#[]⟩, .string ⟨#[]⟩, .string ⟨#[]⟩, .string ⟨#[]⟩, .string ⟨#[]⟩, .string ⟨#[]⟩, .string ⟨#[]⟩, .string ⟨#[]⟩, .string ⟨#[]⟩]) rfl rfl (by decide) (by decide) (.cons rfl rfl rfl rfl (.here (.nil (Nat.zero_le _))) (.cons rfl rfl rfl rfl (.there (.here (.nil (Nat.zero_le _)))) (.cons rfl rfl rfl rfl (.there (.there (.here (.nil (Nat.zero_le _))))) (.cons rfl rfl rfl rfl (.there (.there (.there (.here (.nil (Nat.zero_le _)))))) (.cons rfl rfl rfl rfl (.there (.there (.there (.there (.here (.nil (Nat.zero_le _))))))) (.cons rfl rfl rfl rfl (.there (.there (.there (.there (.there (.here (.nil (Nat.zero_le _)))))))) (.cons rfl rfl rfl rfl (.there (.there (.there (.there (.there (.there (.here (.nil (Nat.zero_le _))))))))) (.cons rfl rfl rfl rfl (.there (.there (.there (.there (.there (.there (.there (.here (.nil (Nat.zero_le _)))))))))) (.cons rfl rfl rfl rfl (.there (.there (.there (.there (.there (.there (.there (.there (.here (.nil (Nat.zero_le _))))))))))) (.cons rfl rfl rfl rfl (.there (.there (.there (.there (.there (.there (.there (.there (.there (.here (.nil (Nat.zero_le _)))))))))))) (.cons rfl rfl rfl rfl (.there (.there (.there (.there (.there (.there (.there (.there (.there (.there (.here (.nil (Nat.zero_le _))))))))))))) (.nil)))))))))))) rfl ?_)
  clear hst; intro a w g1 hst
  refine l_op rfl (r_assign hst rfl rfl ?_)
  clear hst; intro a hst
  refine wpList_nil ?_
  refine then_n ?_
  refine wp_ret ?_
  obtain ⟨U, hext, hcont, hst⟩ := hst.settle_ (.head)
  obtain ⟨ts, hsl⟩ := strs_sl1 (hcont 11 11) rfl rfl (by decide)
  refine x_ret (rs := [.tmp 0]) hst rfl (.tmp rfl (.nil)) ?_
  exact ⟨_, 11, 11, _, rfl, by decide, hsl⟩

def InvWord (w0 : World) (U0 : Mk) (s : ByteArray) (mz : Nat) (a : Act) (w : World) : Prop :=
  ∃ (U : Mk) (i : Int), Sta w0 U0 48 [(0, .string s), (5, .int .i64 i)] [] [] (fun _ _ => True) a w U ∧ 0 ≤ i ∧ i ≤ s.size ∧ mz = ((s.size : Int) - i).toNat
def InvNumber (w0 : World) (U0 : Mk) (s : ByteArray) (mz : Nat) (a : Act) (w : World) : Prop :=
  ∃ (U : Mk) (i q : Int), Sta w0 U0 46 [(0, .string s), (4, .int .i64 q), (5, .int .i64 i)] [] [] (fun _ _ => True) a w U ∧ 0 ≤ i ∧ i ≤ s.size ∧ mz = ((s.size : Int) - i).toNat

theorem word_c {w : World} {U : Mk} (s : ByteArray) (k : Int) (hs : s.size ≤ 1000000) :
    CallsS Tryz.prog 58 [.string s, .int .i64 k] w U (fun v _ _ => ∃ b : Bool, v = .bool b) := by
  refine x_enter (F := fun _ _ => True) (n := 48) Tryz.func58 rfl rfl (by simp) (.cons (d := 0) rfl (.cons (d := 1) rfl (.nil))) (Mono.true_) (trivial) ?_
  intro a hst
  refine wp_seq ?_
  refine wp_region_lit ?_
  refine l_op rfl (r_assign hst rfl rfl ?_)
  clear hst; intro a hst
  refine wpList_nil ?_
  refine then_n ?_
  refine wp_seq ?_
  refine wp_seq ?_
  refine wp_region_lit ?_
  refine l_op rfl (r_move hst rfl rfl ?_)
  clear hst; intro a hst
  refine l_op rfl (r_lenstr hst rfl Tu9 rfl ?_)
  clear hst; intro a hst
  refine l_op rfl (r_bin hst rfl rfl rfl rfl rfl ?_)
  clear hst; intro a hst
  refine l_op rfl (r_move hst rfl rfl ?_)
  clear hst; intro a hst
  refine hst.split (t := 10) rfl (fun hc1 hst => ?_) (fun hc1 hst => ?_)
  · try simp only [n1, n2, n3, n4, n5, n6, n7, n8, n9, na, nb] at hc1
    refine l_off hst rfl rfl rfl (by decide) rfl rfl ?_
    clear hst; intro a hst
    refine l_off hst rfl rfl rfl (by decide) rfl rfl ?_
    clear hst; intro a hst
    refine l_off hst rfl rfl rfl (by decide) rfl rfl ?_
    clear hst; intro a hst
    refine l_op rfl (r_pick hst rfl rfl rfl ?_)
    clear hst; intro a hst
    refine l_op rfl (r_move hst rfl rfl ?_)
    clear hst; intro a hst
    refine l_off hst rfl rfl rfl (by decide) rfl rfl ?_
    clear hst; intro a hst
    refine l_off hst rfl rfl rfl (by decide) rfl rfl ?_
    clear hst; intro a hst
    refine l_off hst rfl rfl rfl (by decide) rfl rfl ?_
    clear hst; intro a hst
    refine l_off hst rfl rfl rfl (by decide) rfl rfl ?_
    clear hst; intro a hst
    refine l_off hst rfl rfl rfl (by decide) rfl rfl ?_
    clear hst; intro a hst
    refine l_op rfl (r_pick hst rfl rfl rfl ?_)
    clear hst; intro a hst
    refine wpList_nil ?_
    refine then_n ?_
    refine x_cond_t hst rfl ?_
    refine wp_seq ?_
    refine wp_region_lit ?_
    refine l_op rfl (r_assign hst rfl rfl ?_)
    clear hst; intro a hst
    refine wpList_nil ?_
    refine then_n ?_
    refine wp_ret ?_
    refine then_r ?_
    refine x_ret (rs := [.tmp 4]) hst rfl (.tmp rfl (.nil)) ?_
    exact ⟨_, rfl⟩
  try simp only [n1, n2, n3, n4, n5, n6, n7, n8, n9, na, nb] at hc1
  refine l_on hst rfl rfl rfl (r_move hst rfl rfl ?_)
  clear hst; intro a hst
  refine l_on hst rfl rfl rfl (r_lenstr hst rfl Tu9 rfl ?_)
  clear hst; intro a hst
  refine l_on hst rfl rfl rfl (r_bin hst rfl rfl rfl rfl rfl ?_)
  clear hst; intro a hst
  refine l_op rfl (r_pick hst rfl rfl rfl ?_)
  clear hst; intro a hst
  refine l_op rfl (r_move hst rfl rfl ?_)
  clear hst; intro a hst
  refine hst.split (t := 15) rfl (fun hc2 hst => ?_) (fun hc2 hst => ?_)
  · try simp only [n1, n2, n3, n4, n5, n6, n7, n8, n9, na, nb] at hc2
    refine l_off hst rfl rfl rfl (by decide) rfl rfl ?_
    clear hst; intro a hst
    refine l_off hst rfl rfl rfl (by decide) rfl rfl ?_
    clear hst; intro a hst
    refine l_off hst rfl rfl rfl (by decide) rfl rfl ?_
    clear hst; intro a hst
    refine l_off hst rfl rfl rfl (by decide) rfl rfl ?_
    clear hst; intro a hst
    refine l_off hst rfl rfl rfl (by decide) rfl rfl ?_
    clear hst; intro a hst
    refine l_op rfl (r_pick hst rfl rfl rfl ?_)
    clear hst; intro a hst
    refine wpList_nil ?_
    refine then_n ?_
    refine x_cond_t hst rfl ?_
    refine wp_seq ?_
    refine wp_region_lit ?_
    refine l_op rfl (r_assign hst rfl rfl ?_)
    clear hst; intro a hst
    refine wpList_nil ?_
    refine then_n ?_
    refine wp_ret ?_
    refine then_r ?_
    refine x_ret (rs := [.tmp 4]) hst rfl (.tmp rfl (.nil)) ?_
    exact ⟨_, rfl⟩
  try simp only [n1, n2, n3, n4, n5, n6, n7, n8, n9, na, nb] at hc2
  refine l_on hst rfl rfl rfl (r_move hst rfl rfl ?_)
  clear hst; intro a hst
  refine l_on hst rfl rfl rfl (r_index hst rfl rfl Tu9 (by omega) (by omega) rfl ?_)
  clear hst; intro a by1 hby1 hst
  refine l_on hst rfl rfl rfl (r_call (xs := [(Operand.tmp 17)]) hst rfl Ten56 (class_c _) rfl ?_)
  clear hst; rintro a _ w U ⟨kc1, rfl, hk1a, hk1b, hk1c⟩ hst
  refine l_on hst rfl rfl rfl (r_move hst rfl rfl ?_)
  clear hst; intro a hst
  refine l_on hst rfl rfl rfl (r_bin hst rfl rfl rfl rfl rfl ?_)
  clear hst; intro a hst
  refine l_op rfl (r_pick hst rfl rfl rfl ?_)
  clear hst; intro a hst
  refine wpList_nil ?_
  refine then_n ?_
  refine x_cond hst rfl (fun hc3 => ?_) (fun hc3 => ?_)
  · try simp only [n1, n2, n3, n4, n5, n6, n7, n8, n9, na, nb] at hc3
    refine wp_seq ?_
    refine wp_region_lit ?_
    refine l_op rfl (r_assign hst rfl rfl ?_)
    clear hst; intro a hst
    refine wpList_nil ?_
    refine then_n ?_
    refine wp_ret ?_
    refine then_r ?_
    refine x_ret (rs := [.tmp 4]) hst rfl (.tmp rfl (.nil)) ?_
    exact ⟨_, rfl⟩
  try simp only [n1, n2, n3, n4, n5, n6, n7, n8, n9, na, nb] at hc3
  refine wp_skip ?_
  refine then_n ?_
  refine wp_seq ?_
  refine wp_seq ?_
  refine wp_region_lit ?_
  refine l_op rfl (r_assign hst rfl rfl ?_)
  clear hst; intro a hst
  refine wpList_nil ?_
  refine then_n ?_
  refine wp_block ?_
  have hst := ((hst.keep (ds := [0, 5]) (.cons rfl (.cons rfl (.nil)))).drop (.slnil))
  refine wp_loop_ghost (InvWord _ _ s) (s.size) ⟨_, 0, hst, by omega, by omega, by omega⟩ ?_
  clear hst
  rintro mz a w ⟨U, i, hst, hi0, hi1, rfl⟩
  refine wp_seq ?_
  refine wp_seq ?_
  refine wp_region_lit ?_
  refine l_op rfl (r_move hst rfl rfl ?_)
  clear hst; intro a hst
  refine l_op rfl (r_move hst rfl rfl ?_)
  clear hst; intro a hst
  refine l_op rfl (r_lenstr hst rfl Tu9 rfl ?_)
  clear hst; intro a hst
  refine l_op rfl (r_bin hst rfl rfl rfl rfl rfl ?_)
  clear hst; intro a hst
  refine wpList_nil ?_
  refine then_n ?_
  refine x_cond hst rfl (fun hc4 => ?_) (fun hc4 => ?_)
  · try simp only [n1, n2, n3, n4, n5, n6, n7, n8, n9, na, nb] at hc4
    refine wp_skip ?_
    refine then_n ?_
    refine wp_seq ?_
    refine wp_block ?_
    refine wp_seq ?_
    refine wp_region_lit ?_
    refine l_op rfl (r_move hst rfl rfl ?_)
    clear hst; intro a hst
    refine l_op rfl (r_move hst rfl rfl ?_)
    clear hst; intro a hst
    refine l_op rfl (r_index hst rfl rfl Tu9 (by omega) (by omega) rfl ?_)
    clear hst; intro a by2 hby2 hst
    refine l_op rfl (r_call (xs := [(Operand.tmp 30)]) hst rfl Ten56 (class_c _) rfl ?_)
    clear hst; rintro a _ w U ⟨kc2, rfl, hk2a, hk2b, hk2c⟩ hst
    refine l_op rfl (r_assign hst rfl rfl ?_)
    clear hst; intro a hst
    refine wpList_nil ?_
    refine then_n ?_
    refine wp_seq ?_
    refine wp_region_lit ?_
    refine l_op rfl (r_move hst rfl rfl ?_)
    clear hst; intro a hst
    refine l_op rfl (r_move hst rfl rfl ?_)
    clear hst; intro a hst
    refine l_op rfl (r_index hst rfl rfl Tu9 (by omega) (by omega) rfl ?_)
    clear hst; intro a by3 hby3 hst
    refine l_op rfl (r_bin hst rfl rfl rfl rfl rfl ?_)
    clear hst; intro a hst
    refine l_op rfl (r_move hst rfl rfl ?_)
    clear hst; intro a hst
    refine hst.split (t := 36) rfl (fun hc5 hst => ?_) (fun hc5 hst => ?_)
    · try simp only [n1, n2, n3, n4, n5, n6, n7, n8, n9, na, nb] at hc5
      refine l_on hst rfl rfl rfl (r_move hst rfl rfl ?_)
      clear hst; intro a hst
      refine l_on hst rfl rfl rfl (r_bin hst rfl rfl rfl rfl rfl ?_)
      clear hst; intro a hst
      refine l_op rfl (r_pick hst rfl rfl rfl ?_)
      clear hst; intro a hst
      refine l_op rfl (r_move hst rfl rfl ?_)
      clear hst; intro a hst
      refine hst.split (t := 40) rfl (fun hc6 hst => ?_) (fun hc6 hst => ?_)
      · try simp only [n1, n2, n3, n4, n5, n6, n7, n8, n9, na, nb] at hc6
        refine l_on hst rfl rfl rfl (r_move hst rfl rfl ?_)
        clear hst; intro a hst
        refine l_on hst rfl rfl rfl (r_bin hst rfl rfl rfl rfl rfl ?_)
        clear hst; intro a hst
        refine l_op rfl (r_pick hst rfl rfl rfl ?_)
        clear hst; intro a hst
        refine l_op rfl (r_move hst rfl rfl ?_)
        clear hst; intro a hst
        refine hst.split (t := 44) rfl (fun hc7 hst => ?_) (fun hc7 hst => ?_)
        · try simp only [n1, n2, n3, n4, n5, n6, n7, n8, n9, na, nb] at hc7
          refine l_on hst rfl rfl rfl (r_move hst rfl rfl ?_)
          clear hst; intro a hst
          refine l_on hst rfl rfl rfl (r_bin hst rfl rfl rfl rfl rfl ?_)
          clear hst; intro a hst
          refine l_op rfl (r_pick hst rfl rfl rfl ?_)
          clear hst; intro a hst
          refine wpList_nil ?_
          refine then_n ?_
          refine x_cond hst rfl (fun hc8 => ?_) (fun hc8 => ?_)
          · try simp only [n1, n2, n3, n4, n5, n6, n7, n8, n9, na, nb] at hc8
            refine wp_seq ?_
            refine wp_region_lit ?_
            refine l_op rfl (r_assign hst rfl rfl ?_)
            clear hst; intro a hst
            refine wpList_nil ?_
            refine then_n ?_
            refine wp_ret ?_
            refine inb_r ?_
            refine then_r ?_
            refine then_r ?_
            refine inb_r ?_
            refine then_r ?_
            refine x_ret (rs := [.tmp 4]) hst rfl (.tmp rfl (.nil)) ?_
            exact ⟨_, rfl⟩
          try simp only [n1, n2, n3, n4, n5, n6, n7, n8, n9, na, nb] at hc8
          refine wp_skip ?_
          refine inb_n ?_
          refine then_n ?_
          refine wp_region_lit ?_
          refine l_op rfl (r_move hst rfl rfl ?_)
          clear hst; intro a hst
          refine l_op rfl (r_bin hst rfl rfl rfl rfl rfl ?_)
          clear hst; intro a hst
          rw [wrap_in _ (by omega) (by omega)] at hst
          refine l_op rfl (r_assign hst rfl rfl ?_)
          clear hst; intro a hst
          refine wpList_nil ?_
          have hst := ((hst.keep (ds := [0, 5]) (.cons rfl (.cons rfl (.nil)))).drop (.slnil))
          exact then_k ⟨_, by omega, _, _, hst, by omega, by omega, rfl⟩
        try simp only [n1, n2, n3, n4, n5, n6, n7, n8, n9, na, nb] at hc7
        refine l_off hst rfl rfl rfl (by decide) rfl rfl ?_
        clear hst; intro a hst
        refine l_off hst rfl rfl rfl (by decide) rfl rfl ?_
        clear hst; intro a hst
        refine l_op rfl (r_pick hst rfl rfl rfl ?_)
        clear hst; intro a hst
        refine wpList_nil ?_
        refine then_n ?_
        refine x_cond_f hst rfl ?_
        refine wp_skip ?_
        refine inb_n ?_
        refine then_n ?_
        refine wp_region_lit ?_
        refine l_op rfl (r_move hst rfl rfl ?_)
        clear hst; intro a hst
        refine l_op rfl (r_bin hst rfl rfl rfl rfl rfl ?_)
        clear hst; intro a hst
        rw [wrap_in _ (by omega) (by omega)] at hst
        refine l_op rfl (r_assign hst rfl rfl ?_)
        clear hst; intro a hst
        refine wpList_nil ?_
        have hst := ((hst.keep (ds := [0, 5]) (.cons rfl (.cons rfl (.nil)))).drop (.slnil))
        exact then_k ⟨_, by omega, _, _, hst, by omega, by omega, rfl⟩
      try simp only [n1, n2, n3, n4, n5, n6, n7, n8, n9, na, nb] at hc6
      refine l_off hst rfl rfl rfl (by decide) rfl rfl ?_
      clear hst; intro a hst
      refine l_off hst rfl rfl rfl (by decide) rfl rfl ?_
      clear hst; intro a hst
      refine l_op rfl (r_pick hst rfl rfl rfl ?_)
      clear hst; intro a hst
      refine l_op rfl (r_move hst rfl rfl ?_)
      clear hst; intro a hst
      refine l_off hst rfl rfl rfl (by decide) rfl rfl ?_
      clear hst; intro a hst
      refine l_off hst rfl rfl rfl (by decide) rfl rfl ?_
      clear hst; intro a hst
      refine l_op rfl (r_pick hst rfl rfl rfl ?_)
      clear hst; intro a hst
      refine wpList_nil ?_
      refine then_n ?_
      refine x_cond_f hst rfl ?_
      refine wp_skip ?_
      refine inb_n ?_
      refine then_n ?_
      refine wp_region_lit ?_
      refine l_op rfl (r_move hst rfl rfl ?_)
      clear hst; intro a hst
      refine l_op rfl (r_bin hst rfl rfl rfl rfl rfl ?_)
      clear hst; intro a hst
      rw [wrap_in _ (by omega) (by omega)] at hst
      refine l_op rfl (r_assign hst rfl rfl ?_)
      clear hst; intro a hst
      refine wpList_nil ?_
      have hst := ((hst.keep (ds := [0, 5]) (.cons rfl (.cons rfl (.nil)))).drop (.slnil))
      exact then_k ⟨_, by omega, _, _, hst, by omega, by omega, rfl⟩
    try simp only [n1, n2, n3, n4, n5, n6, n7, n8, n9, na, nb] at hc5
    refine l_off hst rfl rfl rfl (by decide) rfl rfl ?_
    clear hst; intro a hst
    refine l_off hst rfl rfl rfl (by decide) rfl rfl ?_
    clear hst; intro a hst
    refine l_op rfl (r_pick hst rfl rfl rfl ?_)
    clear hst; intro a hst
    refine l_op rfl (r_move hst rfl rfl ?_)
    clear hst; intro a hst
    refine l_off hst rfl rfl rfl (by decide) rfl rfl ?_
    clear hst; intro a hst
    refine l_off hst rfl rfl rfl (by decide) rfl rfl ?_
    clear hst; intro a hst
    refine l_op rfl (r_pick hst rfl rfl rfl ?_)
    clear hst; intro a hst
    refine l_op rfl (r_move hst rfl rfl ?_)
    clear hst; intro a hst
    refine l_off hst rfl rfl rfl (by decide) rfl rfl ?_
    clear hst; intro a hst
    refine l_off hst rfl rfl rfl (by decide) rfl rfl ?_
    clear hst; intro a hst
    refine l_op rfl (r_pick hst rfl rfl rfl ?_)
    clear hst; intro a hst
    refine wpList_nil ?_
    refine then_n ?_
    refine x_cond_f hst rfl ?_
    refine wp_skip ?_
    refine inb_n ?_
    refine then_n ?_
    refine wp_region_lit ?_
    refine l_op rfl (r_move hst rfl rfl ?_)
    clear hst; intro a hst
    refine l_op rfl (r_bin hst rfl rfl rfl rfl rfl ?_)
    clear hst; intro a hst
    rw [wrap_in _ (by omega) (by omega)] at hst
    refine l_op rfl (r_assign hst rfl rfl ?_)
    clear hst; intro a hst
    refine wpList_nil ?_
    have hst := ((hst.keep (ds := [0, 5]) (.cons rfl (.cons rfl (.nil)))).drop (.slnil))
    exact then_k ⟨_, by omega, _, _, hst, by omega, by omega, rfl⟩
  try simp only [n1, n2, n3, n4, n5, n6, n7, n8, n9, na, nb] at hc4
  refine wp_exit ?_
  refine then_x ?_
  refine then_x ?_
  refine inb_hit ?_
  refine then_n ?_
  refine wp_seq ?_
  refine wp_region_lit ?_
  refine l_op rfl (r_assign hst rfl rfl ?_)
  clear hst; intro a hst
  refine wpList_nil ?_
  refine then_n ?_
  refine wp_ret ?_
  refine x_ret (rs := [.tmp 4]) hst rfl (.tmp rfl (.nil)) ?_
  exact ⟨_, rfl⟩

theorem number_c {w : World} {U : Mk} (s : ByteArray) (hs : s.size ≤ 1000000) :
    CallsS Tryz.prog 59 [.string s] w U (fun v _ _ => ∃ (k : Int) (b : Bool), v = .tuple #[.int .i64 k, .bool b]) := by
  refine x_enter (F := fun _ _ => True) (n := 46) Tryz.func59 rfl rfl (by simp) (.cons (d := 0) rfl (.nil)) (Mono.true_) (trivial) ?_
  intro a hst
  refine wp_seq ?_
  refine wp_region_lit ?_
  refine l_op rfl (r_assign hst rfl rfl ?_)
  clear hst; intro a hst
  refine l_op rfl (r_assign hst rfl rfl ?_)
  clear hst; intro a hst
  refine wpList_nil ?_
  refine then_n ?_
  refine wp_seq ?_
  refine wp_seq ?_
  refine wp_region_lit ?_
  refine l_op rfl (r_move hst rfl rfl ?_)
  clear hst; intro a hst
  refine l_op rfl (r_lenstr hst rfl Tu9 rfl ?_)
  clear hst; intro a hst
  refine l_op rfl (r_bin hst rfl rfl rfl rfl rfl ?_)
  clear hst; intro a hst
  refine l_op rfl (r_move hst rfl rfl ?_)
  clear hst; intro a hst
  refine hst.split (t := 9) rfl (fun hc1 hst => ?_) (fun hc1 hst => ?_)
  · try simp only [n1, n2, n3, n4, n5, n6, n7, n8, n9, na, nb] at hc1
    refine l_off hst rfl rfl rfl (by decide) rfl rfl ?_
    clear hst; intro a hst
    refine l_off hst rfl rfl rfl (by decide) rfl rfl ?_
    clear hst; intro a hst
    refine l_off hst rfl rfl rfl (by decide) rfl rfl ?_
    clear hst; intro a hst
    refine l_op rfl (r_pick hst rfl rfl rfl ?_)
    clear hst; intro a hst
    refine l_op rfl (r_move hst rfl rfl ?_)
    clear hst; intro a hst
    refine l_off hst rfl rfl rfl (by decide) rfl rfl ?_
    clear hst; intro a hst
    refine l_off hst rfl rfl rfl (by decide) rfl rfl ?_
    clear hst; intro a hst
    refine l_off hst rfl rfl rfl (by decide) rfl rfl ?_
    clear hst; intro a hst
    refine l_off hst rfl rfl rfl (by decide) rfl rfl ?_
    clear hst; intro a hst
    refine l_undef hst rfl rfl rfl rfl rfl ?_
    clear hst; intro a hst
    refine l_undef hst rfl rfl rfl rfl rfl ?_
    clear hst; intro a hst
    refine l_undef hst rfl rfl rfl rfl rfl ?_
    clear hst; intro a hst
    refine l_off hst rfl rfl rfl (by decide) rfl rfl ?_
    clear hst; intro a hst
    refine l_op rfl (r_pick hst rfl rfl rfl ?_)
    clear hst; intro a hst
    refine wpList_nil ?_
    refine then_n ?_
    refine x_cond_t hst rfl ?_
    refine wp_seq ?_
    refine wp_region_lit ?_
    refine l_op rfl (r_assign hst rfl rfl ?_)
    clear hst; intro a hst
    refine l_op rfl (r_assign hst rfl rfl ?_)
    clear hst; intro a hst
    refine wpList_nil ?_
    refine then_n ?_
    refine wp_ret ?_
    refine then_r ?_
    refine x_ret (rs := [.tmp 2, .tmp 3]) hst rfl (.tmp rfl (.tmp rfl (.nil))) ?_
    exact ⟨_, _, rfl⟩
  try simp only [n1, n2, n3, n4, n5, n6, n7, n8, n9, na, nb] at hc1
  refine l_on hst rfl rfl rfl (r_move hst rfl rfl ?_)
  clear hst; intro a hst
  refine l_on hst rfl rfl rfl (r_lenstr hst rfl Tu9 rfl ?_)
  clear hst; intro a hst
  refine l_on hst rfl rfl rfl (r_bin hst rfl rfl rfl rfl rfl ?_)
  clear hst; intro a hst
  refine l_op rfl (r_pick hst rfl rfl rfl ?_)
  clear hst; intro a hst
  refine l_op rfl (r_move hst rfl rfl ?_)
  clear hst; intro a hst
  refine hst.split (t := 14) rfl (fun hc2 hst => ?_) (fun hc2 hst => ?_)
  · try simp only [n1, n2, n3, n4, n5, n6, n7, n8, n9, na, nb] at hc2
    refine l_off hst rfl rfl rfl (by decide) rfl rfl ?_
    clear hst; intro a hst
    refine l_off hst rfl rfl rfl (by decide) rfl rfl ?_
    clear hst; intro a hst
    refine l_off hst rfl rfl rfl (by decide) rfl rfl ?_
    clear hst; intro a hst
    refine l_off hst rfl rfl rfl (by decide) rfl rfl ?_
    clear hst; intro a hst
    refine l_undef hst rfl rfl rfl rfl rfl ?_
    clear hst; intro a hst
    refine l_undef hst rfl rfl rfl rfl rfl ?_
    clear hst; intro a hst
    refine l_undef hst rfl rfl rfl rfl rfl ?_
    clear hst; intro a hst
    refine l_off hst rfl rfl rfl (by decide) rfl rfl ?_
    clear hst; intro a hst
    refine l_op rfl (r_pick hst rfl rfl rfl ?_)
    clear hst; intro a hst
    refine wpList_nil ?_
    refine then_n ?_
    refine x_cond_t hst rfl ?_
    refine wp_seq ?_
    refine wp_region_lit ?_
    refine l_op rfl (r_assign hst rfl rfl ?_)
    clear hst; intro a hst
    refine l_op rfl (r_assign hst rfl rfl ?_)
    clear hst; intro a hst
    refine wpList_nil ?_
    refine then_n ?_
    refine wp_ret ?_
    refine then_r ?_
    refine x_ret (rs := [.tmp 2, .tmp 3]) hst rfl (.tmp rfl (.tmp rfl (.nil))) ?_
    exact ⟨_, _, rfl⟩
  try simp only [n1, n2, n3, n4, n5, n6, n7, n8, n9, na, nb] at hc2
  refine l_on hst rfl rfl rfl (r_move hst rfl rfl ?_)
  clear hst; intro a hst
  refine l_on hst rfl rfl rfl (r_lenstr hst rfl Tu9 rfl ?_)
  clear hst; intro a hst
  refine l_on hst rfl rfl rfl (r_bin hst rfl rfl rfl rfl rfl ?_)
  clear hst; intro a hst
  refine l_on hst rfl rfl rfl (r_move hst rfl rfl ?_)
  clear hst; intro a hst
  refine hst.split (t := 18) rfl (fun hc3 hst => ?_) (fun hc3 hst => ?_)
  · try simp only [n1, n2, n3, n4, n5, n6, n7, n8, n9, na, nb] at hc3
    refine l_on hst rfl rfl rfl (r_move hst rfl rfl ?_)
    clear hst; intro a hst
    refine l_on hst rfl rfl rfl (r_index hst rfl rfl Tu9 (by omega) (by omega) rfl ?_)
    clear hst; intro a by1 hby1 hst
    refine l_on hst rfl rfl rfl (r_bin hst rfl rfl rfl rfl rfl ?_)
    clear hst; intro a hst
    refine l_on hst rfl rfl rfl (r_pick hst rfl rfl rfl ?_)
    clear hst; intro a hst
    refine l_op rfl (r_pick hst rfl rfl rfl ?_)
    clear hst; intro a hst
    refine wpList_nil ?_
    refine then_n ?_
    refine x_cond hst rfl (fun hc4 => ?_) (fun hc4 => ?_)
    · try simp only [n1, n2, n3, n4, n5, n6, n7, n8, n9, na, nb] at hc4
      refine wp_seq ?_
      refine wp_region_lit ?_
      refine l_op rfl (r_assign hst rfl rfl ?_)
      clear hst; intro a hst
      refine l_op rfl (r_assign hst rfl rfl ?_)
      clear hst; intro a hst
      refine wpList_nil ?_
      refine then_n ?_
      refine wp_ret ?_
      refine then_r ?_
      refine x_ret (rs := [.tmp 2, .tmp 3]) hst rfl (.tmp rfl (.tmp rfl (.nil))) ?_
      exact ⟨_, _, rfl⟩
    try simp only [n1, n2, n3, n4, n5, n6, n7, n8, n9, na, nb] at hc4
    refine wp_skip ?_
    refine then_n ?_
    refine wp_seq ?_
    refine wp_region_lit ?_
    refine l_op rfl (r_assign hst rfl rfl ?_)
    clear hst; intro a hst
    refine wpList_nil ?_
    refine then_n ?_
    refine wp_seq ?_
    refine wp_seq ?_
    refine wp_region_lit ?_
    refine l_op rfl (r_assign hst rfl rfl ?_)
    clear hst; intro a hst
    refine wpList_nil ?_
    refine then_n ?_
    refine wp_block ?_
    have hst := ((hst.keep (ds := [0, 4, 5]) (.cons rfl (.cons rfl (.cons rfl (.nil))))).drop (.slnil))
    refine wp_loop_ghost (InvNumber _ _ s) (s.size) ⟨_, 0, 0, hst, by omega, by omega, by omega⟩ ?_
    clear hst
    rintro mz a w ⟨U, i, q, hst, hi0, hi1, rfl⟩
    refine wp_seq ?_
    refine wp_seq ?_
    refine wp_region_lit ?_
    refine l_op rfl (r_move hst rfl rfl ?_)
    clear hst; intro a hst
    refine l_op rfl (r_move hst rfl rfl ?_)
    clear hst; intro a hst
    refine l_op rfl (r_lenstr hst rfl Tu9 rfl ?_)
    clear hst; intro a hst
    refine l_op rfl (r_bin hst rfl rfl rfl rfl rfl ?_)
    clear hst; intro a hst
    refine wpList_nil ?_
    refine then_n ?_
    refine x_cond hst rfl (fun hc5 => ?_) (fun hc5 => ?_)
    · try simp only [n1, n2, n3, n4, n5, n6, n7, n8, n9, na, nb] at hc5
      refine wp_skip ?_
      refine then_n ?_
      refine wp_seq ?_
      refine wp_block ?_
      refine wp_seq ?_
      refine wp_seq ?_
      refine wp_region_lit ?_
      refine l_op rfl (r_move hst rfl rfl ?_)
      clear hst; intro a hst
      refine l_op rfl (r_move hst rfl rfl ?_)
      clear hst; intro a hst
      refine l_op rfl (r_index hst rfl rfl Tu9 (by omega) (by omega) rfl ?_)
      clear hst; intro a by2 hby2 hst
      refine l_op rfl (r_call (xs := [(Operand.tmp 32)]) hst rfl Ten56 (class_c _) rfl ?_)
      clear hst; rintro a _ w U ⟨kc3, rfl, hk3a, hk3b, hk3c⟩ hst
      refine l_op rfl (r_bin hst rfl rfl rfl rfl rfl ?_)
      clear hst; intro a hst
      refine wpList_nil ?_
      refine then_n ?_
      refine x_cond hst rfl (fun hc6 => ?_) (fun hc6 => ?_)
      · try simp only [n1, n2, n3, n4, n5, n6, n7, n8, n9, na, nb] at hc6
        refine wp_seq ?_
        refine wp_region_lit ?_
        refine l_op rfl (r_assign hst rfl rfl ?_)
        clear hst; intro a hst
        refine l_op rfl (r_assign hst rfl rfl ?_)
        clear hst; intro a hst
        refine wpList_nil ?_
        refine then_n ?_
        refine wp_ret ?_
        refine then_r ?_
        refine inb_r ?_
        refine then_r ?_
        refine then_r ?_
        refine inb_r ?_
        refine then_r ?_
        refine x_ret (rs := [.tmp 2, .tmp 3]) hst rfl (.tmp rfl (.tmp rfl (.nil))) ?_
        exact ⟨_, _, rfl⟩
      try simp only [n1, n2, n3, n4, n5, n6, n7, n8, n9, na, nb] at hc6
      refine wp_skip ?_
      refine then_n ?_
      refine wp_region_lit ?_
      refine l_op rfl (r_move hst rfl rfl ?_)
      clear hst; intro a hst
      refine l_op rfl (r_mul hst rfl rfl rfl ?_)
      clear hst; intro a hst
      refine l_op rfl (r_move hst rfl rfl ?_)
      clear hst; intro a hst
      refine l_op rfl (r_move hst rfl rfl ?_)
      clear hst; intro a hst
      refine l_op rfl (r_index hst rfl rfl Tu9 (by omega) (by omega) rfl ?_)
      clear hst; intro a by3 hby3 hst
      refine l_op rfl (r_conv hst rfl Tu5 Tu3 rfl ?_)
      clear hst; intro a hst
      refine l_op rfl (r_bin hst rfl rfl rfl rfl rfl ?_)
      clear hst; intro a hst
      refine l_op rfl (r_bin hst rfl rfl rfl rfl rfl ?_)
      clear hst; intro a hst
      refine l_op rfl (r_assign hst rfl rfl ?_)
      clear hst; intro a hst
      refine wpList_nil ?_
      refine inb_n ?_
      refine then_n ?_
      refine wp_region_lit ?_
      refine l_op rfl (r_move hst rfl rfl ?_)
      clear hst; intro a hst
      refine l_op rfl (r_bin hst rfl rfl rfl rfl rfl ?_)
      clear hst; intro a hst
      rw [wrap_in (i + 1) (by omega) (by omega)] at hst
      refine l_op rfl (r_assign hst rfl rfl ?_)
      clear hst; intro a hst
      refine wpList_nil ?_
      have hst := ((hst.keep (ds := [0, 4, 5]) (.cons rfl (.cons rfl (.cons rfl (.nil))))).drop (.slnil))
      exact then_k ⟨_, by omega, _, _, _, hst, by omega, by omega, rfl⟩
    try simp only [n1, n2, n3, n4, n5, n6, n7, n8, n9, na, nb] at hc5
    refine wp_exit ?_
    refine then_x ?_
    refine then_x ?_
    refine inb_hit ?_
    refine then_n ?_
    refine wp_seq ?_
    refine wp_seq ?_
    refine wp_region_lit ?_
    refine l_op rfl (r_move hst rfl rfl ?_)
    clear hst; intro a hst
    refine l_op rfl (r_bin hst rfl rfl rfl rfl rfl ?_)
    clear hst; intro a hst
    refine wpList_nil ?_
    refine then_n ?_
    refine x_cond hst rfl (fun hc7 => ?_) (fun hc7 => ?_)
    · try simp only [n1, n2, n3, n4, n5, n6, n7, n8, n9, na, nb] at hc7
      refine wp_seq ?_
      refine wp_region_lit ?_
      refine l_op rfl (r_assign hst rfl rfl ?_)
      clear hst; intro a hst
      refine l_op rfl (r_assign hst rfl rfl ?_)
      clear hst; intro a hst
      refine wpList_nil ?_
      refine then_n ?_
      refine wp_ret ?_
      refine then_r ?_
      refine x_ret (rs := [.tmp 2, .tmp 3]) hst rfl (.tmp rfl (.tmp rfl (.nil))) ?_
      exact ⟨_, _, rfl⟩
    try simp only [n1, n2, n3, n4, n5, n6, n7, n8, n9, na, nb] at hc7
    refine wp_skip ?_
    refine then_n ?_
    refine wp_seq ?_
    refine wp_region_lit ?_
    refine l_op rfl (r_move hst rfl rfl ?_)
    clear hst; intro a hst
    refine l_op rfl (r_assign hst rfl rfl ?_)
    clear hst; intro a hst
    refine l_op rfl (r_assign hst rfl rfl ?_)
    clear hst; intro a hst
    refine wpList_nil ?_
    refine then_n ?_
    refine wp_ret ?_
    refine x_ret (rs := [.tmp 2, .tmp 3]) hst rfl (.tmp rfl (.tmp rfl (.nil))) ?_
    exact ⟨_, _, rfl⟩
  try simp only [n1, n2, n3, n4, n5, n6, n7, n8, n9, na, nb] at hc3
  refine l_off hst rfl rfl rfl (by decide) rfl rfl ?_
  clear hst; intro a hst
  refine l_off hst rfl rfl rfl (by decide) rfl rfl ?_
  clear hst; intro a hst
  refine l_off hst rfl rfl rfl (by decide) rfl rfl ?_
  clear hst; intro a hst
  refine l_on hst rfl rfl rfl (r_pick hst rfl rfl rfl ?_)
  clear hst; intro a hst
  refine l_op rfl (r_pick hst rfl rfl rfl ?_)
  clear hst; intro a hst
  refine wpList_nil ?_
  refine then_n ?_
  refine x_cond_f hst rfl ?_
  refine wp_skip ?_
  refine then_n ?_
  refine wp_seq ?_
  refine wp_region_lit ?_
  refine l_op rfl (r_assign hst rfl rfl ?_)
  clear hst; intro a hst
  refine wpList_nil ?_
  refine then_n ?_
  refine wp_seq ?_
  refine wp_seq ?_
  refine wp_region_lit ?_
  refine l_op rfl (r_assign hst rfl rfl ?_)
  clear hst; intro a hst
  refine wpList_nil ?_
  refine then_n ?_
  refine wp_block ?_
  have hst := ((hst.keep (ds := [0, 4, 5]) (.cons rfl (.cons rfl (.cons rfl (.nil))))).drop (.slnil))
  refine wp_loop_ghost (InvNumber _ _ s) (s.size) ⟨_, 0, 0, hst, by omega, by omega, by omega⟩ ?_
  clear hst
  rintro mz a w ⟨U, i, q, hst, hi0, hi1, rfl⟩
  refine wp_seq ?_
  refine wp_seq ?_
  refine wp_region_lit ?_
  refine l_op rfl (r_move hst rfl rfl ?_)
  clear hst; intro a hst
  refine l_op rfl (r_move hst rfl rfl ?_)
  clear hst; intro a hst
  refine l_op rfl (r_lenstr hst rfl Tu9 rfl ?_)
  clear hst; intro a hst
  refine l_op rfl (r_bin hst rfl rfl rfl rfl rfl ?_)
  clear hst; intro a hst
  refine wpList_nil ?_
  refine then_n ?_
  refine x_cond hst rfl (fun hc8 => ?_) (fun hc8 => ?_)
  · try simp only [n1, n2, n3, n4, n5, n6, n7, n8, n9, na, nb] at hc8
    refine wp_skip ?_
    refine then_n ?_
    refine wp_seq ?_
    refine wp_block ?_
    refine wp_seq ?_
    refine wp_seq ?_
    refine wp_region_lit ?_
    refine l_op rfl (r_move hst rfl rfl ?_)
    clear hst; intro a hst
    refine l_op rfl (r_move hst rfl rfl ?_)
    clear hst; intro a hst
    refine l_op rfl (r_index hst rfl rfl Tu9 (by omega) (by omega) rfl ?_)
    clear hst; intro a by4 hby4 hst
    refine l_op rfl (r_call (xs := [(Operand.tmp 32)]) hst rfl Ten56 (class_c _) rfl ?_)
    clear hst; rintro a _ w U ⟨kc4, rfl, hk4a, hk4b, hk4c⟩ hst
    refine l_op rfl (r_bin hst rfl rfl rfl rfl rfl ?_)
    clear hst; intro a hst
    refine wpList_nil ?_
    refine then_n ?_
    refine x_cond hst rfl (fun hc9 => ?_) (fun hc9 => ?_)
    · try simp only [n1, n2, n3, n4, n5, n6, n7, n8, n9, na, nb] at hc9
      refine wp_seq ?_
      refine wp_region_lit ?_
      refine l_op rfl (r_assign hst rfl rfl ?_)
      clear hst; intro a hst
      refine l_op rfl (r_assign hst rfl rfl ?_)
      clear hst; intro a hst
      refine wpList_nil ?_
      refine then_n ?_
      refine wp_ret ?_
      refine then_r ?_
      refine inb_r ?_
      refine then_r ?_
      refine then_r ?_
      refine inb_r ?_
      refine then_r ?_
      refine x_ret (rs := [.tmp 2, .tmp 3]) hst rfl (.tmp rfl (.tmp rfl (.nil))) ?_
      exact ⟨_, _, rfl⟩
    try simp only [n1, n2, n3, n4, n5, n6, n7, n8, n9, na, nb] at hc9
    refine wp_skip ?_
    refine then_n ?_
    refine wp_region_lit ?_
    refine l_op rfl (r_move hst rfl rfl ?_)
    clear hst; intro a hst
    refine l_op rfl (r_mul hst rfl rfl rfl ?_)
    clear hst; intro a hst
    refine l_op rfl (r_move hst rfl rfl ?_)
    clear hst; intro a hst
    refine l_op rfl (r_move hst rfl rfl ?_)
    clear hst; intro a hst
    refine l_op rfl (r_index hst rfl rfl Tu9 (by omega) (by omega) rfl ?_)
    clear hst; intro a by5 hby5 hst
    refine l_op rfl (r_conv hst rfl Tu5 Tu3 rfl ?_)
    clear hst; intro a hst
    refine l_op rfl (r_bin hst rfl rfl rfl rfl rfl ?_)
    clear hst; intro a hst
    refine l_op rfl (r_bin hst rfl rfl rfl rfl rfl ?_)
    clear hst; intro a hst
    refine l_op rfl (r_assign hst rfl rfl ?_)
    clear hst; intro a hst
    refine wpList_nil ?_
    refine inb_n ?_
    refine then_n ?_
    refine wp_region_lit ?_
    refine l_op rfl (r_move hst rfl rfl ?_)
    clear hst; intro a hst
    refine l_op rfl (r_bin hst rfl rfl rfl rfl rfl ?_)
    clear hst; intro a hst
    rw [wrap_in (i + 1) (by omega) (by omega)] at hst
    refine l_op rfl (r_assign hst rfl rfl ?_)
    clear hst; intro a hst
    refine wpList_nil ?_
    have hst := ((hst.keep (ds := [0, 4, 5]) (.cons rfl (.cons rfl (.cons rfl (.nil))))).drop (.slnil))
    exact then_k ⟨_, by omega, _, _, _, hst, by omega, by omega, rfl⟩
  try simp only [n1, n2, n3, n4, n5, n6, n7, n8, n9, na, nb] at hc8
  refine wp_exit ?_
  refine then_x ?_
  refine then_x ?_
  refine inb_hit ?_
  refine then_n ?_
  refine wp_seq ?_
  refine wp_seq ?_
  refine wp_region_lit ?_
  refine l_op rfl (r_move hst rfl rfl ?_)
  clear hst; intro a hst
  refine l_op rfl (r_bin hst rfl rfl rfl rfl rfl ?_)
  clear hst; intro a hst
  refine wpList_nil ?_
  refine then_n ?_
  refine x_cond hst rfl (fun hc10 => ?_) (fun hc10 => ?_)
  · try simp only [n1, n2, n3, n4, n5, n6, n7, n8, n9, na, nb] at hc10
    refine wp_seq ?_
    refine wp_region_lit ?_
    refine l_op rfl (r_assign hst rfl rfl ?_)
    clear hst; intro a hst
    refine l_op rfl (r_assign hst rfl rfl ?_)
    clear hst; intro a hst
    refine wpList_nil ?_
    refine then_n ?_
    refine wp_ret ?_
    refine then_r ?_
    refine x_ret (rs := [.tmp 2, .tmp 3]) hst rfl (.tmp rfl (.tmp rfl (.nil))) ?_
    exact ⟨_, _, rfl⟩
  try simp only [n1, n2, n3, n4, n5, n6, n7, n8, n9, na, nb] at hc10
  refine wp_skip ?_
  refine then_n ?_
  refine wp_seq ?_
  refine wp_region_lit ?_
  refine l_op rfl (r_move hst rfl rfl ?_)
  clear hst; intro a hst
  refine l_op rfl (r_assign hst rfl rfl ?_)
  clear hst; intro a hst
  refine l_op rfl (r_assign hst rfl rfl ?_)
  clear hst; intro a hst
  refine wpList_nil ?_
  refine then_n ?_
  refine wp_ret ?_
  refine x_ret (rs := [.tmp 2, .tmp 3]) hst rfl (.tmp rfl (.tmp rfl (.nil))) ?_
  exact ⟨_, _, rfl⟩

theorem starts_s {w : World} {U : Mk} (s t : ByteArray) (i : Int) (hs : s.size ≤ 1000000) (ht : t.size ≤ 1000000) (h0 : 0 ≤ i) (h1 : i ≤ s.size) :
    CallsS Tryz.prog 37 [.string s, .int .i64 i, .string t] w U (fun v _ _ => ∃ b : Bool, v = .bool b) := by
  refine x_enter (F := fun _ _ => True) (n := 25) Tryz.func37 rfl rfl (by simp) (.cons (d := 0) rfl (.cons (d := 1) rfl (.cons (d := 2) rfl (.nil)))) (Mono.true_) (trivial) ?_
  intro a hst
  refine wp_seq ?_
  refine wp_region_lit ?_
  refine l_op rfl (r_assign hst rfl rfl ?_)
  clear hst; intro a hst
  refine wpList_nil ?_
  refine then_n ?_
  refine wp_seq ?_
  refine wp_region_lit ?_
  refine l_op rfl (r_move hst rfl rfl ?_)
  clear hst; intro a hst
  refine l_op rfl (r_lenstr hst rfl Tu9 rfl ?_)
  clear hst; intro a hst
  refine l_op rfl (r_move hst rfl rfl ?_)
  clear hst; intro a hst
  refine l_op rfl (r_bin hst rfl rfl rfl rfl rfl ?_)
  clear hst; intro a hst
  rw [wrap_in _ (by omega) (by omega)] at hst
  refine l_op rfl (r_move hst rfl rfl ?_)
  clear hst; intro a hst
  refine l_op rfl (r_lenstr hst rfl Tu9 rfl ?_)
  clear hst; intro a hst
  refine l_op rfl (r_bin hst rfl rfl rfl rfl rfl ?_)
  clear hst; intro a hst
  refine l_op rfl (r_move hst rfl rfl ?_)
  clear hst; intro a hst
  refine hst.split (t := 14) rfl (fun hc1 hst => ?_) (fun hc1 hst => ?_)
  · try simp only [n1, n2, n3, n4, n5, n6, n7, n8, n9, na, nb] at hc1
    refine l_on hst rfl rfl rfl (r_move hst rfl rfl ?_)
    clear hst; intro a hst
    refine l_on hst rfl rfl rfl (r_move hst rfl rfl ?_)
    clear hst; intro a hst
    refine l_on hst rfl rfl rfl (r_move hst rfl rfl ?_)
    clear hst; intro a hst
    refine l_on hst rfl rfl rfl (r_move hst rfl rfl ?_)
    clear hst; intro a hst
    refine l_on hst rfl rfl rfl (r_lenstr hst rfl Tu9 rfl ?_)
    clear hst; intro a hst
    refine l_on hst rfl rfl rfl (r_bin hst rfl rfl rfl rfl rfl ?_)
    clear hst; intro a hst
    rw [wrap_in _ (by omega) (by omega)] at hst
    refine l_on hst rfl rfl rfl (r_slicestr hst rfl rfl rfl Tu9 (by omega) (by omega) (by omega) rfl ?_)
    clear hst; intro a st1 hst1 hst
    refine l_on hst rfl rfl rfl (r_move hst rfl rfl ?_)
    clear hst; intro a hst
    refine l_on hst rfl rfl rfl (r_bin hst rfl rfl rfl rfl rfl ?_)
    clear hst; intro a hst
    refine l_op rfl (r_pick hst rfl rfl rfl ?_)
    clear hst; intro a hst
    refine l_op rfl (r_assign hst rfl rfl ?_)
    clear hst; intro a hst
    refine wpList_nil ?_
    refine then_n ?_
    refine wp_ret ?_
    refine x_ret (rs := [.tmp 6]) hst rfl (.tmp rfl (.nil)) ?_
    exact ⟨_, rfl⟩
  try simp only [n1, n2, n3, n4, n5, n6, n7, n8, n9, na, nb] at hc1
  refine l_off hst rfl rfl rfl (by decide) rfl rfl ?_
  clear hst; intro a hst
  refine l_off hst rfl rfl rfl (by decide) rfl rfl ?_
  clear hst; intro a hst
  refine l_off hst rfl rfl rfl (by decide) rfl rfl ?_
  clear hst; intro a hst
  refine l_off hst rfl rfl rfl (by decide) rfl rfl ?_
  clear hst; intro a hst
  refine l_off hst rfl rfl rfl (by decide) rfl rfl ?_
  clear hst; intro a hst
  refine l_off hst rfl rfl rfl (by decide) rfl rfl ?_
  clear hst; intro a hst
  refine l_off hst rfl rfl rfl (by decide) rfl rfl ?_
  clear hst; intro a hst
  refine l_off hst rfl rfl rfl (by decide) rfl rfl ?_
  clear hst; intro a hst
  refine l_off hst rfl rfl rfl (by decide) rfl rfl ?_
  clear hst; intro a hst
  refine l_op rfl (r_pick hst rfl rfl rfl ?_)
  clear hst; intro a hst
  refine l_op rfl (r_assign hst rfl rfl ?_)
  clear hst; intro a hst
  refine wpList_nil ?_
  refine then_n ?_
  refine wp_ret ?_
  refine x_ret (rs := [.tmp 6]) hst rfl (.tmp rfl (.nil)) ?_
  exact ⟨_, rfl⟩

def InvTok (w0 : World) (U0 : Mk) (s : ByteArray) (i k : Int) (g1 : Nat) (mz : Nat) (a : Act) (w : World) : Prop :=
  ∃ (U : Mk) (m : Int), Sta w0 U0 112 [(0, .string s), (1, .int .i64 i), (4, .pointer (some ⟨g1, 0, none⟩)), (5, .int .i64 k), (6, .int .i64 m)] [⟨g1, 50, [.int .i64 0, .string ⟨#[]⟩, .int .i64 0, .int .i64 0, .int .i64 0]⟩] [] (fun _ _ => True) a w U ∧ i ≤ m ∧ m ≤ s.size ∧ mz = ((s.size : Int) - m).toNat
def InvSym (w0 : World) (U0 : Mk) (s : ByteArray) (i k : Int) (g1 : Nat) (A : Option Addr) (l c : Nat) (ts : List (List UInt8)) (mz : Nat) (a : Act) (w : World) : Prop :=
  ∃ (U : Mk) (m : Int), Sta w0 U0 112 [(0, .string s), (1, .int .i64 i), (4, .pointer (some ⟨g1, 0, none⟩)), (5, .int .i64 k), (98, .slice A l c), (99, .int .i64 (l : Int)), (100, .int .i64 m)] [⟨g1, 50, [.int .i64 0, .string ⟨#[]⟩, .int .i64 0, .int .i64 0, .int .i64 0]⟩] [] (Sl kN (.slice A l c) ts) a w U ∧ 0 ≤ m ∧ m ≤ l ∧ mz = ((l : Int) - m).toNat

theorem token_c {w : World} {U : Mk} (s : ByteArray) (i : Int) (hs : s.size ≤ 4096) (h0 : 0 ≤ i) (h1 : i < s.size) :
    CallsS Tryz.prog 38 [.string s, .int .i64 i] w U (fun v _ _ => ∃ (k m x y : Int) (t : ByteArray), v = .agg #[.int .i64 k, .string t, .int .i64 m, .int .i64 x, .int .i64 y] ∧ (k = 0 ∨ (1 ≤ t.size ∧ t.size ≤ 4096))) := by
  refine x_enter (F := fun _ _ => True) (n := 112) Tryz.func38 rfl rfl (by simp) (.cons (d := 0) rfl (.cons (d := 1) rfl (.nil))) (Mono.true_) (trivial) ?_
  intro a hst
  refine wp_seq ?_
  refine wp_region_lit ?_
  refine l_op rfl (r_alloc hst Tz50 rfl ?_)
  clear hst; intro a w g1 hst
  refine wpList_nil ?_
  refine then_n ?_
  refine wp_seq ?_
  refine wp_region_lit ?_
  refine l_op rfl (r_move hst rfl rfl ?_)
  clear hst; intro a hst
  refine l_op rfl (r_move hst rfl rfl ?_)
  clear hst; intro a hst
  refine l_op rfl (r_index hst rfl rfl Tu9 (by omega) (by omega) rfl ?_)
  clear hst; intro a by1 hby1 hst
  refine l_op rfl (r_call (xs := [(Operand.tmp 14)]) hst rfl Ten56 (class_c _) rfl ?_)
  clear hst; rintro a _ w U ⟨kc5, rfl, hk5a, hk5b, hk5c⟩ hst
  refine l_op rfl (r_assign hst rfl rfl ?_)
  clear hst; intro a hst
  refine wpList_nil ?_
  refine then_n ?_
  refine wp_seq ?_
  refine wp_region_lit ?_
  refine l_op rfl (r_move hst rfl rfl ?_)
  clear hst; intro a hst
  refine l_op rfl (r_assign hst rfl rfl ?_)
  clear hst; intro a hst
  refine wpList_nil ?_
  refine then_n ?_
  refine wp_seq ?_
  refine wp_seq ?_
  refine wp_region_lit ?_
  refine l_op rfl (r_move hst rfl rfl ?_)
  clear hst; intro a hst
  refine l_op rfl (r_bin hst rfl rfl rfl rfl rfl ?_)
  clear hst; intro a hst
  refine l_op rfl (r_move hst rfl rfl ?_)
  clear hst; intro a hst
  refine hst.split (t := 19) rfl (fun hc1 hst => ?_) (fun hc1 hst => ?_)
  · try simp at hc1
    refine l_off hst rfl rfl rfl (by decide) rfl rfl ?_
    clear hst; intro a hst
    refine l_off hst rfl rfl rfl (by decide) rfl rfl ?_
    clear hst; intro a hst
    refine l_op rfl (r_pick hst rfl rfl rfl ?_)
    clear hst; intro a hst
    refine wpList_nil ?_
    refine then_n ?_
    refine x_cond_t hst rfl ?_
    refine wp_seq ?_
    refine wp_block ?_
    have hst := ((hst.keep (ds := [0, 1, 4, 5, 6]) (.cons rfl (.cons rfl (.cons rfl (.cons rfl (.cons rfl (.nil))))))).drop (.cons_cons _ (.slnil)))
    refine wp_loop_ghost (InvTok _ _ s i _ _) (((s.size : Int) - i).toNat) ⟨_, i, hst, by omega, by omega, rfl⟩ ?_
    clear hst
    rintro mz a w ⟨U, m, hst, hi0, hi1, rfl⟩
    refine wp_seq ?_
    refine wp_seq ?_
    refine wp_region_lit ?_
    refine l_op rfl (r_move hst rfl rfl ?_)
    clear hst; intro a hst
    refine l_op rfl (r_move hst rfl rfl ?_)
    clear hst; intro a hst
    refine l_op rfl (r_lenstr hst rfl Tu9 rfl ?_)
    clear hst; intro a hst
    refine l_op rfl (r_bin hst rfl rfl rfl rfl rfl ?_)
    clear hst; intro a hst
    refine l_op rfl (r_move hst rfl rfl ?_)
    clear hst; intro a hst
    refine hst.split (t := 27) rfl (fun hc2 hst => ?_) (fun hc2 hst => ?_)
    · try simp at hc2
      refine l_on hst rfl rfl rfl (r_move hst rfl rfl ?_)
      clear hst; intro a hst
      refine l_on hst rfl rfl rfl (r_move hst rfl rfl ?_)
      clear hst; intro a hst
      refine l_on hst rfl rfl rfl (r_index hst rfl rfl Tu9 (by omega) (by omega) rfl ?_)
      clear hst; intro a by2 hby2 hst
      refine l_on hst rfl rfl rfl (r_call (xs := [(Operand.tmp 30)]) hst rfl Ten56 (class_c _) rfl ?_)
      clear hst; rintro a _ w U ⟨kc6, rfl, hk6a, hk6b, hk6c⟩ hst
      refine l_on hst rfl rfl rfl (r_bin hst rfl rfl rfl rfl rfl ?_)
      clear hst; intro a hst
      refine l_on hst rfl rfl rfl (r_move hst rfl rfl ?_)
      clear hst; intro a hst
      refine hst.split (t := 33) rfl (fun hc3 hst => ?_) (fun hc3 hst => ?_)
      · try simp at hc3
        refine l_on hst rfl rfl rfl (r_move hst rfl rfl ?_)
        clear hst; intro a hst
        refine l_on hst rfl rfl rfl (r_move hst rfl rfl ?_)
        clear hst; intro a hst
        refine l_on hst rfl rfl rfl (r_index hst rfl rfl Tu9 (by omega) (by omega) rfl ?_)
        clear hst; intro a by3 hby3 hst
        refine l_on hst rfl rfl rfl (r_call (xs := [(Operand.tmp 36)]) hst rfl Ten56 (class_c _) rfl ?_)
        clear hst; rintro a _ w U ⟨kc7, rfl, hk7a, hk7b, hk7c⟩ hst
        refine l_on hst rfl rfl rfl (r_bin hst rfl rfl rfl rfl rfl ?_)
        clear hst; intro a hst
        refine l_on hst rfl rfl rfl (r_pick hst rfl rfl rfl ?_)
        clear hst; intro a hst
        refine l_on hst rfl rfl rfl (r_move hst rfl rfl ?_)
        clear hst; intro a hst
        refine hst.split (t := 40) rfl (fun hc4 hst => ?_) (fun hc4 hst => ?_)
        · try simp at hc4
          refine l_off hst rfl rfl rfl (by decide) rfl rfl ?_
          clear hst; intro a hst
          refine l_off hst rfl rfl rfl (by decide) rfl rfl ?_
          clear hst; intro a hst
          refine l_off hst rfl rfl rfl (by decide) rfl rfl ?_
          clear hst; intro a hst
          refine l_off hst rfl rfl rfl (by decide) rfl rfl ?_
          clear hst; intro a hst
          refine l_on hst rfl rfl rfl (r_pick hst rfl rfl rfl ?_)
          clear hst; intro a hst
          refine l_op rfl (r_pick hst rfl rfl rfl ?_)
          clear hst; intro a hst
          refine wpList_nil ?_
          refine then_n ?_
          refine x_cond_t hst rfl ?_
          refine wp_skip ?_
          refine then_n ?_
          refine wp_block ?_
          refine wp_region_lit ?_
          refine l_op rfl (r_move hst rfl rfl ?_)
          clear hst; intro a hst
          refine l_op rfl (r_bin hst rfl rfl rfl rfl rfl ?_)
          clear hst; intro a hst
          rw [wrap_in _ (by omega) (by omega)] at hst
          refine l_op rfl (r_assign hst rfl rfl ?_)
          clear hst; intro a hst
          refine wpList_nil ?_
          refine inb_n ?_
          have hst := ((hst.keep (ds := [0, 1, 4, 5, 6]) (.cons rfl (.cons rfl (.cons rfl (.cons rfl (.cons rfl (.nil))))))).drop (.cons_cons _ (.slnil)))
          exact then_k ⟨_, by omega, _, _, hst, by omega, by omega, rfl⟩
        try simp at hc4
        refine l_on hst rfl rfl rfl (r_move hst rfl rfl ?_)
        clear hst; intro a hst
        refine l_on hst rfl rfl rfl (r_move hst rfl rfl ?_)
        clear hst; intro a hst
        refine l_on hst rfl rfl rfl (r_index hst rfl rfl Tu9 (by omega) (by omega) rfl ?_)
        clear hst; intro a by4 hby4 hst
        refine l_on hst rfl rfl rfl (r_bin hst rfl rfl rfl rfl rfl ?_)
        clear hst; intro a hst
        refine l_on hst rfl rfl rfl (r_pick hst rfl rfl rfl ?_)
        clear hst; intro a hst
        refine l_op rfl (r_pick hst rfl rfl rfl ?_)
        clear hst; intro a hst
        refine wpList_nil ?_
        refine then_n ?_
        refine x_cond hst rfl (fun hc5 => ?_) (fun hc5 => ?_)
        · try simp at hc5
          refine wp_skip ?_
          refine then_n ?_
          refine wp_block ?_
          refine wp_region_lit ?_
          refine l_op rfl (r_move hst rfl rfl ?_)
          clear hst; intro a hst
          refine l_op rfl (r_bin hst rfl rfl rfl rfl rfl ?_)
          clear hst; intro a hst
          rw [wrap_in _ (by omega) (by omega)] at hst
          refine l_op rfl (r_assign hst rfl rfl ?_)
          clear hst; intro a hst
          refine wpList_nil ?_
          refine inb_n ?_
          have hst := ((hst.keep (ds := [0, 1, 4, 5, 6]) (.cons rfl (.cons rfl (.cons rfl (.cons rfl (.cons rfl (.nil))))))).drop (.cons_cons _ (.slnil)))
          exact then_k ⟨_, by omega, _, _, hst, by omega, by omega, rfl⟩
        try simp at hc5
        refine wp_exit ?_
        refine then_x ?_
        refine then_x ?_
        refine inb_hit ?_
        refine then_n ?_
        refine wp_seq ?_
        have hpr : i < m := by grind
        refine wp_region_lit ?_
        refine l_op rfl (r_move hst rfl rfl ?_)
        clear hst; intro a hst
        refine l_op rfl (r_move hst rfl rfl ?_)
        clear hst; intro a hst
        refine l_op rfl (r_move hst rfl rfl ?_)
        clear hst; intro a hst
        refine l_op rfl (r_slicestr hst rfl rfl rfl Tu9 (by omega) (by omega) (by omega) rfl ?_)
        clear hst; intro a st1 hst1 hst
        refine l_op rfl (r_assign hst rfl rfl ?_)
        clear hst; intro a hst
        refine wpList_nil ?_
        refine then_n ?_
        refine wp_seq ?_
        refine wp_seq ?_
        refine wp_region_lit ?_
        refine l_op rfl (r_move hst rfl rfl ?_)
        clear hst; intro a hst
        refine l_op rfl (r_call (xs := [(Operand.tmp 53)]) hst rfl Ten57 (key_c _) rfl ?_)
        clear hst; rintro a _ w U ⟨bk, rfl⟩ hst
        refine wpList_nil ?_
        refine then_n ?_
        refine x_cond hst rfl (fun hc6 => ?_) (fun hc6 => ?_)
        · try simp at hc6
          refine wp_seq ?_
          refine wp_region_lit ?_
          refine l_op rfl (r_move hst rfl rfl ?_)
          clear hst; intro a hst
          refine l_op rfl (r_build (ps := [(0, (Operand.const (Value.int IntKind.i64 5))), (1, (Operand.tmp 55))]) hst Tso50 Tz50 (.cons Tf50_0 rfl rfl (.here (.nil (Nat.zero_le _))) (.cons Tf50_1 rfl rfl (.there (.here (.nil (Nat.zero_le _)))) (.nil))) rfl ?_)
          clear hst; intro a hst
          refine l_op rfl (r_store hst rfl rfl rfl Tsz50 rfl (.head (.here (.here (.here (.here (.here (.nil (Nat.zero_le _)))))))) ?_)
          clear hst; intro w hst
          refine wpList_nil ?_
          refine then_n ?_
          refine wp_ret ?_
          refine then_r ?_
          refine then_r ?_
          refine x_ret (rs := [.cell 4 50]) hst rfl (.agg rfl Ta50 (.head _) rfl (.nil)) ?_
          exact ⟨_, _, _, _, _, rfl, by grind⟩
        try simp at hc6
        refine wp_skip ?_
        refine then_n ?_
        refine wp_seq ?_
        refine wp_seq ?_
        refine wp_region_lit ?_
        refine l_op rfl (r_move hst rfl rfl ?_)
        clear hst; intro a hst
        refine l_op rfl (r_call (xs := [(Operand.tmp 57), (Operand.const (Value.int IntKind.i64 1))]) hst rfl Ten58 (word_c _ _ (by omega)) rfl ?_)
        clear hst; rintro a _ w U ⟨bw, rfl⟩ hst
        refine wpList_nil ?_
        refine then_n ?_
        refine x_cond hst rfl (fun hc7 => ?_) (fun hc7 => ?_)
        · try simp at hc7
          refine wp_seq ?_
          refine wp_region_lit ?_
          refine l_op rfl (r_move hst rfl rfl ?_)
          clear hst; intro a hst
          refine l_op rfl (r_build (ps := [(0, (Operand.const (Value.int IntKind.i64 2))), (1, (Operand.tmp 59))]) hst Tso50 Tz50 (.cons Tf50_0 rfl rfl (.here (.nil (Nat.zero_le _))) (.cons Tf50_1 rfl rfl (.there (.here (.nil (Nat.zero_le _)))) (.nil))) rfl ?_)
          clear hst; intro a hst
          refine l_op rfl (r_store hst rfl rfl rfl Tsz50 rfl (.head (.here (.here (.here (.here (.here (.nil (Nat.zero_le _)))))))) ?_)
          clear hst; intro w hst
          refine wpList_nil ?_
          refine then_n ?_
          refine wp_ret ?_
          refine then_r ?_
          refine then_r ?_
          refine x_ret (rs := [.cell 4 50]) hst rfl (.agg rfl Ta50 (.head _) rfl (.nil)) ?_
          exact ⟨_, _, _, _, _, rfl, by grind⟩
        try simp at hc7
        refine wp_skip ?_
        refine then_n ?_
        refine wp_seq ?_
        refine wp_seq ?_
        refine wp_region_lit ?_
        refine l_op rfl (r_move hst rfl rfl ?_)
        clear hst; intro a hst
        refine l_op rfl (r_call (xs := [(Operand.tmp 61), (Operand.const (Value.int IntKind.i64 2))]) hst rfl Ten58 (word_c _ _ (by omega)) rfl ?_)
        clear hst; rintro a _ w U ⟨bw, rfl⟩ hst
        refine wpList_nil ?_
        refine then_n ?_
        refine x_cond hst rfl (fun hc8 => ?_) (fun hc8 => ?_)
        · try simp at hc8
          refine wp_seq ?_
          refine wp_region_lit ?_
          refine l_op rfl (r_move hst rfl rfl ?_)
          clear hst; intro a hst
          refine l_op rfl (r_build (ps := [(0, (Operand.const (Value.int IntKind.i64 3))), (1, (Operand.tmp 63))]) hst Tso50 Tz50 (.cons Tf50_0 rfl rfl (.here (.nil (Nat.zero_le _))) (.cons Tf50_1 rfl rfl (.there (.here (.nil (Nat.zero_le _)))) (.nil))) rfl ?_)
          clear hst; intro a hst
          refine l_op rfl (r_store hst rfl rfl rfl Tsz50 rfl (.head (.here (.here (.here (.here (.here (.nil (Nat.zero_le _)))))))) ?_)
          clear hst; intro w hst
          refine wpList_nil ?_
          refine then_n ?_
          refine wp_ret ?_
          refine then_r ?_
          refine then_r ?_
          refine x_ret (rs := [.cell 4 50]) hst rfl (.agg rfl Ta50 (.head _) rfl (.nil)) ?_
          exact ⟨_, _, _, _, _, rfl, by grind⟩
        try simp at hc8
        refine wp_skip ?_
        refine then_n ?_
        refine wp_seq ?_
        refine wp_region_lit ?_
        refine l_op rfl (r_build (ps := []) hst Tso50 Tz50 (.nil) rfl ?_)
        clear hst; intro a hst
        refine l_op rfl (r_store hst rfl rfl rfl Tsz50 rfl (.head (.here (.here (.here (.here (.here (.nil (Nat.zero_le _)))))))) ?_)
        clear hst; intro w hst
        refine wpList_nil ?_
        refine then_n ?_
        refine wp_ret ?_
        refine then_r ?_
        refine x_ret (rs := [.cell 4 50]) hst rfl (.agg rfl Ta50 (.head _) rfl (.nil)) ?_
        exact ⟨_, _, _, _, _, rfl, by grind⟩
      try simp at hc3
      refine l_off hst rfl rfl rfl (by decide) rfl rfl ?_
      clear hst; intro a hst
      refine l_off hst rfl rfl rfl (by decide) rfl rfl ?_
      clear hst; intro a hst
      refine l_off hst rfl rfl rfl (by decide) rfl rfl ?_
      clear hst; intro a hst
      refine l_off hst rfl rfl rfl (by decide) rfl rfl ?_
      clear hst; intro a hst
      refine l_off hst rfl rfl rfl (by decide) rfl rfl ?_
      clear hst; intro a hst
      refine l_on hst rfl rfl rfl (r_pick hst rfl rfl rfl ?_)
      clear hst; intro a hst
      refine l_on hst rfl rfl rfl (r_move hst rfl rfl ?_)
      clear hst; intro a hst
      refine l_on hst rfl rfl rfl (r_move hst rfl rfl ?_)
      clear hst; intro a hst
      refine l_on hst rfl rfl rfl (r_move hst rfl rfl ?_)
      clear hst; intro a hst
      refine l_on hst rfl rfl rfl (r_index hst rfl rfl Tu9 (by omega) (by omega) rfl ?_)
      clear hst; intro a by5 hby5 hst
      refine l_on hst rfl rfl rfl (r_bin hst rfl rfl rfl rfl rfl ?_)
      clear hst; intro a hst
      refine l_on hst rfl rfl rfl (r_pick hst rfl rfl rfl ?_)
      clear hst; intro a hst
      refine l_op rfl (r_pick hst rfl rfl rfl ?_)
      clear hst; intro a hst
      refine wpList_nil ?_
      refine then_n ?_
      refine x_cond hst rfl (fun hc9 => ?_) (fun hc9 => ?_)
      · try simp at hc9
        refine wp_skip ?_
        refine then_n ?_
        refine wp_block ?_
        refine wp_region_lit ?_
        refine l_op rfl (r_move hst rfl rfl ?_)
        clear hst; intro a hst
        refine l_op rfl (r_bin hst rfl rfl rfl rfl rfl ?_)
        clear hst; intro a hst
        rw [wrap_in _ (by omega) (by omega)] at hst
        refine l_op rfl (r_assign hst rfl rfl ?_)
        clear hst; intro a hst
        refine wpList_nil ?_
        refine inb_n ?_
        have hst := ((hst.keep (ds := [0, 1, 4, 5, 6]) (.cons rfl (.cons rfl (.cons rfl (.cons rfl (.cons rfl (.nil))))))).drop (.cons_cons _ (.slnil)))
        exact then_k ⟨_, by omega, _, _, hst, by omega, by omega, rfl⟩
      try simp at hc9
      refine wp_exit ?_
      refine then_x ?_
      refine then_x ?_
      refine inb_hit ?_
      refine then_n ?_
      refine wp_seq ?_
      have hpr : i < m := by grind
      refine wp_region_lit ?_
      refine l_op rfl (r_move hst rfl rfl ?_)
      clear hst; intro a hst
      refine l_op rfl (r_move hst rfl rfl ?_)
      clear hst; intro a hst
      refine l_op rfl (r_move hst rfl rfl ?_)
      clear hst; intro a hst
      refine l_op rfl (r_slicestr hst rfl rfl rfl Tu9 (by omega) (by omega) (by omega) rfl ?_)
      clear hst; intro a st2 hst2 hst
      refine l_op rfl (r_assign hst rfl rfl ?_)
      clear hst; intro a hst
      refine wpList_nil ?_
      refine then_n ?_
      refine wp_seq ?_
      refine wp_seq ?_
      refine wp_region_lit ?_
      refine l_op rfl (r_move hst rfl rfl ?_)
      clear hst; intro a hst
      refine l_op rfl (r_call (xs := [(Operand.tmp 53)]) hst rfl Ten57 (key_c _) rfl ?_)
      clear hst; rintro a _ w U ⟨bk, rfl⟩ hst
      refine wpList_nil ?_
      refine then_n ?_
      refine x_cond hst rfl (fun hc10 => ?_) (fun hc10 => ?_)
      · try simp at hc10
        refine wp_seq ?_
        refine wp_region_lit ?_
        refine l_op rfl (r_move hst rfl rfl ?_)
        clear hst; intro a hst
        refine l_op rfl (r_build (ps := [(0, (Operand.const (Value.int IntKind.i64 5))), (1, (Operand.tmp 55))]) hst Tso50 Tz50 (.cons Tf50_0 rfl rfl (.here (.nil (Nat.zero_le _))) (.cons Tf50_1 rfl rfl (.there (.here (.nil (Nat.zero_le _)))) (.nil))) rfl ?_)
        clear hst; intro a hst
        refine l_op rfl (r_store hst rfl rfl rfl Tsz50 rfl (.head (.here (.here (.here (.here (.here (.nil (Nat.zero_le _)))))))) ?_)
        clear hst; intro w hst
        refine wpList_nil ?_
        refine then_n ?_
        refine wp_ret ?_
        refine then_r ?_
        refine then_r ?_
        refine x_ret (rs := [.cell 4 50]) hst rfl (.agg rfl Ta50 (.head _) rfl (.nil)) ?_
        exact ⟨_, _, _, _, _, rfl, by grind⟩
      try simp at hc10
      refine wp_skip ?_
      refine then_n ?_
      refine wp_seq ?_
      refine wp_seq ?_
      refine wp_region_lit ?_
      refine l_op rfl (r_move hst rfl rfl ?_)
      clear hst; intro a hst
      refine l_op rfl (r_call (xs := [(Operand.tmp 57), (Operand.const (Value.int IntKind.i64 1))]) hst rfl Ten58 (word_c _ _ (by omega)) rfl ?_)
      clear hst; rintro a _ w U ⟨bw, rfl⟩ hst
      refine wpList_nil ?_
      refine then_n ?_
      refine x_cond hst rfl (fun hc11 => ?_) (fun hc11 => ?_)
      · try simp at hc11
        refine wp_seq ?_
        refine wp_region_lit ?_
        refine l_op rfl (r_move hst rfl rfl ?_)
        clear hst; intro a hst
        refine l_op rfl (r_build (ps := [(0, (Operand.const (Value.int IntKind.i64 2))), (1, (Operand.tmp 59))]) hst Tso50 Tz50 (.cons Tf50_0 rfl rfl (.here (.nil (Nat.zero_le _))) (.cons Tf50_1 rfl rfl (.there (.here (.nil (Nat.zero_le _)))) (.nil))) rfl ?_)
        clear hst; intro a hst
        refine l_op rfl (r_store hst rfl rfl rfl Tsz50 rfl (.head (.here (.here (.here (.here (.here (.nil (Nat.zero_le _)))))))) ?_)
        clear hst; intro w hst
        refine wpList_nil ?_
        refine then_n ?_
        refine wp_ret ?_
        refine then_r ?_
        refine then_r ?_
        refine x_ret (rs := [.cell 4 50]) hst rfl (.agg rfl Ta50 (.head _) rfl (.nil)) ?_
        exact ⟨_, _, _, _, _, rfl, by grind⟩
      try simp at hc11
      refine wp_skip ?_
      refine then_n ?_
      refine wp_seq ?_
      refine wp_seq ?_
      refine wp_region_lit ?_
      refine l_op rfl (r_move hst rfl rfl ?_)
      clear hst; intro a hst
      refine l_op rfl (r_call (xs := [(Operand.tmp 61), (Operand.const (Value.int IntKind.i64 2))]) hst rfl Ten58 (word_c _ _ (by omega)) rfl ?_)
      clear hst; rintro a _ w U ⟨bw, rfl⟩ hst
      refine wpList_nil ?_
      refine then_n ?_
      refine x_cond hst rfl (fun hc12 => ?_) (fun hc12 => ?_)
      · try simp at hc12
        refine wp_seq ?_
        refine wp_region_lit ?_
        refine l_op rfl (r_move hst rfl rfl ?_)
        clear hst; intro a hst
        refine l_op rfl (r_build (ps := [(0, (Operand.const (Value.int IntKind.i64 3))), (1, (Operand.tmp 63))]) hst Tso50 Tz50 (.cons Tf50_0 rfl rfl (.here (.nil (Nat.zero_le _))) (.cons Tf50_1 rfl rfl (.there (.here (.nil (Nat.zero_le _)))) (.nil))) rfl ?_)
        clear hst; intro a hst
        refine l_op rfl (r_store hst rfl rfl rfl Tsz50 rfl (.head (.here (.here (.here (.here (.here (.nil (Nat.zero_le _)))))))) ?_)
        clear hst; intro w hst
        refine wpList_nil ?_
        refine then_n ?_
        refine wp_ret ?_
        refine then_r ?_
        refine then_r ?_
        refine x_ret (rs := [.cell 4 50]) hst rfl (.agg rfl Ta50 (.head _) rfl (.nil)) ?_
        exact ⟨_, _, _, _, _, rfl, by grind⟩
      try simp at hc12
      refine wp_skip ?_
      refine then_n ?_
      refine wp_seq ?_
      refine wp_region_lit ?_
      refine l_op rfl (r_build (ps := []) hst Tso50 Tz50 (.nil) rfl ?_)
      clear hst; intro a hst
      refine l_op rfl (r_store hst rfl rfl rfl Tsz50 rfl (.head (.here (.here (.here (.here (.here (.nil (Nat.zero_le _)))))))) ?_)
      clear hst; intro w hst
      refine wpList_nil ?_
      refine then_n ?_
      refine wp_ret ?_
      refine then_r ?_
      refine x_ret (rs := [.cell 4 50]) hst rfl (.agg rfl Ta50 (.head _) rfl (.nil)) ?_
      exact ⟨_, _, _, _, _, rfl, by grind⟩
    try simp at hc2
    refine l_off hst rfl rfl rfl (by decide) rfl rfl ?_
    clear hst; intro a hst
    refine l_off hst rfl rfl rfl (by decide) rfl rfl ?_
    clear hst; intro a hst
    refine l_off hst rfl rfl rfl (by decide) rfl rfl ?_
    clear hst; intro a hst
    refine l_off hst rfl rfl rfl (by decide) rfl rfl ?_
    clear hst; intro a hst
    refine l_off hst rfl rfl rfl (by decide) rfl rfl ?_
    clear hst; intro a hst
    refine l_off hst rfl rfl rfl (by decide) rfl rfl ?_
    clear hst; intro a hst
    refine l_undef hst rfl rfl rfl rfl rfl ?_
    clear hst; intro a hst
    refine l_undef hst rfl rfl rfl rfl rfl ?_
    clear hst; intro a hst
    refine l_undef hst rfl rfl rfl rfl rfl ?_
    clear hst; intro a hst
    refine l_undef hst rfl rfl rfl rfl rfl ?_
    clear hst; intro a hst
    refine l_undef hst rfl rfl rfl rfl rfl ?_
    clear hst; intro a hst
    refine l_off hst rfl rfl rfl (by decide) rfl rfl ?_
    clear hst; intro a hst
    refine l_off hst rfl rfl rfl (by decide) rfl rfl ?_
    clear hst; intro a hst
    refine l_undef hst rfl rfl rfl rfl rfl ?_
    clear hst; intro a hst
    refine l_undef hst rfl rfl rfl rfl rfl ?_
    clear hst; intro a hst
    refine l_undef hst rfl rfl rfl rfl rfl ?_
    clear hst; intro a hst
    refine l_undef hst rfl rfl rfl rfl rfl ?_
    clear hst; intro a hst
    refine l_off hst rfl rfl rfl (by decide) rfl rfl ?_
    clear hst; intro a hst
    refine l_op rfl (r_pick hst rfl rfl rfl ?_)
    clear hst; intro a hst
    refine wpList_nil ?_
    refine then_n ?_
    refine x_cond_f hst rfl ?_
    refine wp_exit ?_
    refine then_x ?_
    refine then_x ?_
    refine inb_hit ?_
    refine then_n ?_
    refine wp_seq ?_
    have hpr : i < m := by grind
    refine wp_region_lit ?_
    refine l_op rfl (r_move hst rfl rfl ?_)
    clear hst; intro a hst
    refine l_op rfl (r_move hst rfl rfl ?_)
    clear hst; intro a hst
    refine l_op rfl (r_move hst rfl rfl ?_)
    clear hst; intro a hst
    refine l_op rfl (r_slicestr hst rfl rfl rfl Tu9 (by omega) (by omega) (by omega) rfl ?_)
    clear hst; intro a st3 hst3 hst
    refine l_op rfl (r_assign hst rfl rfl ?_)
    clear hst; intro a hst
    refine wpList_nil ?_
    refine then_n ?_
    refine wp_seq ?_
    refine wp_seq ?_
    refine wp_region_lit ?_
    refine l_op rfl (r_move hst rfl rfl ?_)
    clear hst; intro a hst
    refine l_op rfl (r_call (xs := [(Operand.tmp 53)]) hst rfl Ten57 (key_c _) rfl ?_)
    clear hst; rintro a _ w U ⟨bk, rfl⟩ hst
    refine wpList_nil ?_
    refine then_n ?_
    refine x_cond hst rfl (fun hc13 => ?_) (fun hc13 => ?_)
    · try simp at hc13
      refine wp_seq ?_
      refine wp_region_lit ?_
      refine l_op rfl (r_move hst rfl rfl ?_)
      clear hst; intro a hst
      refine l_op rfl (r_build (ps := [(0, (Operand.const (Value.int IntKind.i64 5))), (1, (Operand.tmp 55))]) hst Tso50 Tz50 (.cons Tf50_0 rfl rfl (.here (.nil (Nat.zero_le _))) (.cons Tf50_1 rfl rfl (.there (.here (.nil (Nat.zero_le _)))) (.nil))) rfl ?_)
      clear hst; intro a hst
      refine l_op rfl (r_store hst rfl rfl rfl Tsz50 rfl (.head (.here (.here (.here (.here (.here (.nil (Nat.zero_le _)))))))) ?_)
      clear hst; intro w hst
      refine wpList_nil ?_
      refine then_n ?_
      refine wp_ret ?_
      refine then_r ?_
      refine then_r ?_
      refine x_ret (rs := [.cell 4 50]) hst rfl (.agg rfl Ta50 (.head _) rfl (.nil)) ?_
      exact ⟨_, _, _, _, _, rfl, by grind⟩
    try simp at hc13
    refine wp_skip ?_
    refine then_n ?_
    refine wp_seq ?_
    refine wp_seq ?_
    refine wp_region_lit ?_
    refine l_op rfl (r_move hst rfl rfl ?_)
    clear hst; intro a hst
    refine l_op rfl (r_call (xs := [(Operand.tmp 57), (Operand.const (Value.int IntKind.i64 1))]) hst rfl Ten58 (word_c _ _ (by omega)) rfl ?_)
    clear hst; rintro a _ w U ⟨bw, rfl⟩ hst
    refine wpList_nil ?_
    refine then_n ?_
    refine x_cond hst rfl (fun hc14 => ?_) (fun hc14 => ?_)
    · try simp at hc14
      refine wp_seq ?_
      refine wp_region_lit ?_
      refine l_op rfl (r_move hst rfl rfl ?_)
      clear hst; intro a hst
      refine l_op rfl (r_build (ps := [(0, (Operand.const (Value.int IntKind.i64 2))), (1, (Operand.tmp 59))]) hst Tso50 Tz50 (.cons Tf50_0 rfl rfl (.here (.nil (Nat.zero_le _))) (.cons Tf50_1 rfl rfl (.there (.here (.nil (Nat.zero_le _)))) (.nil))) rfl ?_)
      clear hst; intro a hst
      refine l_op rfl (r_store hst rfl rfl rfl Tsz50 rfl (.head (.here (.here (.here (.here (.here (.nil (Nat.zero_le _)))))))) ?_)
      clear hst; intro w hst
      refine wpList_nil ?_
      refine then_n ?_
      refine wp_ret ?_
      refine then_r ?_
      refine then_r ?_
      refine x_ret (rs := [.cell 4 50]) hst rfl (.agg rfl Ta50 (.head _) rfl (.nil)) ?_
      exact ⟨_, _, _, _, _, rfl, by grind⟩
    try simp at hc14
    refine wp_skip ?_
    refine then_n ?_
    refine wp_seq ?_
    refine wp_seq ?_
    refine wp_region_lit ?_
    refine l_op rfl (r_move hst rfl rfl ?_)
    clear hst; intro a hst
    refine l_op rfl (r_call (xs := [(Operand.tmp 61), (Operand.const (Value.int IntKind.i64 2))]) hst rfl Ten58 (word_c _ _ (by omega)) rfl ?_)
    clear hst; rintro a _ w U ⟨bw, rfl⟩ hst
    refine wpList_nil ?_
    refine then_n ?_
    refine x_cond hst rfl (fun hc15 => ?_) (fun hc15 => ?_)
    · try simp at hc15
      refine wp_seq ?_
      refine wp_region_lit ?_
      refine l_op rfl (r_move hst rfl rfl ?_)
      clear hst; intro a hst
      refine l_op rfl (r_build (ps := [(0, (Operand.const (Value.int IntKind.i64 3))), (1, (Operand.tmp 63))]) hst Tso50 Tz50 (.cons Tf50_0 rfl rfl (.here (.nil (Nat.zero_le _))) (.cons Tf50_1 rfl rfl (.there (.here (.nil (Nat.zero_le _)))) (.nil))) rfl ?_)
      clear hst; intro a hst
      refine l_op rfl (r_store hst rfl rfl rfl Tsz50 rfl (.head (.here (.here (.here (.here (.here (.nil (Nat.zero_le _)))))))) ?_)
      clear hst; intro w hst
      refine wpList_nil ?_
      refine then_n ?_
      refine wp_ret ?_
      refine then_r ?_
      refine then_r ?_
      refine x_ret (rs := [.cell 4 50]) hst rfl (.agg rfl Ta50 (.head _) rfl (.nil)) ?_
      exact ⟨_, _, _, _, _, rfl, by grind⟩
    try simp at hc15
    refine wp_skip ?_
    refine then_n ?_
    refine wp_seq ?_
    refine wp_region_lit ?_
    refine l_op rfl (r_build (ps := []) hst Tso50 Tz50 (.nil) rfl ?_)
    clear hst; intro a hst
    refine l_op rfl (r_store hst rfl rfl rfl Tsz50 rfl (.head (.here (.here (.here (.here (.here (.nil (Nat.zero_le _)))))))) ?_)
    clear hst; intro w hst
    refine wpList_nil ?_
    refine then_n ?_
    refine wp_ret ?_
    refine then_r ?_
    refine x_ret (rs := [.cell 4 50]) hst rfl (.agg rfl Ta50 (.head _) rfl (.nil)) ?_
    exact ⟨_, _, _, _, _, rfl, by grind⟩
  try simp at hc1
  refine l_on hst rfl rfl rfl (r_move hst rfl rfl ?_)
  clear hst; intro a hst
  refine l_on hst rfl rfl rfl (r_bin hst rfl rfl rfl rfl rfl ?_)
  clear hst; intro a hst
  refine l_op rfl (r_pick hst rfl rfl rfl ?_)
  clear hst; intro a hst
  refine wpList_nil ?_
  refine then_n ?_
  refine x_cond hst rfl (fun hc16 => ?_) (fun hc16 => ?_)
  · try simp at hc16
    refine wp_seq ?_
    refine wp_block ?_
    have hst := ((hst.keep (ds := [0, 1, 4, 5, 6]) (.cons rfl (.cons rfl (.cons rfl (.cons rfl (.cons rfl (.nil))))))).drop (.cons_cons _ (.slnil)))
    refine wp_loop_ghost (InvTok _ _ s i _ _) (((s.size : Int) - i).toNat) ⟨_, i, hst, by omega, by omega, rfl⟩ ?_
    clear hst
    rintro mz a w ⟨U, m, hst, hi0, hi1, rfl⟩
    refine wp_seq ?_
    refine wp_seq ?_
    refine wp_region_lit ?_
    refine l_op rfl (r_move hst rfl rfl ?_)
    clear hst; intro a hst
    refine l_op rfl (r_move hst rfl rfl ?_)
    clear hst; intro a hst
    refine l_op rfl (r_lenstr hst rfl Tu9 rfl ?_)
    clear hst; intro a hst
    refine l_op rfl (r_bin hst rfl rfl rfl rfl rfl ?_)
    clear hst; intro a hst
    refine l_op rfl (r_move hst rfl rfl ?_)
    clear hst; intro a hst
    refine hst.split (t := 27) rfl (fun hc17 hst => ?_) (fun hc17 hst => ?_)
    · try simp at hc17
      refine l_on hst rfl rfl rfl (r_move hst rfl rfl ?_)
      clear hst; intro a hst
      refine l_on hst rfl rfl rfl (r_move hst rfl rfl ?_)
      clear hst; intro a hst
      refine l_on hst rfl rfl rfl (r_index hst rfl rfl Tu9 (by omega) (by omega) rfl ?_)
      clear hst; intro a by6 hby6 hst
      refine l_on hst rfl rfl rfl (r_call (xs := [(Operand.tmp 30)]) hst rfl Ten56 (class_c _) rfl ?_)
      clear hst; rintro a _ w U ⟨kc8, rfl, hk8a, hk8b, hk8c⟩ hst
      refine l_on hst rfl rfl rfl (r_bin hst rfl rfl rfl rfl rfl ?_)
      clear hst; intro a hst
      refine l_on hst rfl rfl rfl (r_move hst rfl rfl ?_)
      clear hst; intro a hst
      refine hst.split (t := 33) rfl (fun hc18 hst => ?_) (fun hc18 hst => ?_)
      · try simp at hc18
        refine l_on hst rfl rfl rfl (r_move hst rfl rfl ?_)
        clear hst; intro a hst
        refine l_on hst rfl rfl rfl (r_move hst rfl rfl ?_)
        clear hst; intro a hst
        refine l_on hst rfl rfl rfl (r_index hst rfl rfl Tu9 (by omega) (by omega) rfl ?_)
        clear hst; intro a by7 hby7 hst
        refine l_on hst rfl rfl rfl (r_call (xs := [(Operand.tmp 36)]) hst rfl Ten56 (class_c _) rfl ?_)
        clear hst; rintro a _ w U ⟨kc9, rfl, hk9a, hk9b, hk9c⟩ hst
        refine l_on hst rfl rfl rfl (r_bin hst rfl rfl rfl rfl rfl ?_)
        clear hst; intro a hst
        refine l_on hst rfl rfl rfl (r_pick hst rfl rfl rfl ?_)
        clear hst; intro a hst
        refine l_on hst rfl rfl rfl (r_move hst rfl rfl ?_)
        clear hst; intro a hst
        refine hst.split (t := 40) rfl (fun hc19 hst => ?_) (fun hc19 hst => ?_)
        · try simp at hc19
          refine l_off hst rfl rfl rfl (by decide) rfl rfl ?_
          clear hst; intro a hst
          refine l_off hst rfl rfl rfl (by decide) rfl rfl ?_
          clear hst; intro a hst
          refine l_off hst rfl rfl rfl (by decide) rfl rfl ?_
          clear hst; intro a hst
          refine l_off hst rfl rfl rfl (by decide) rfl rfl ?_
          clear hst; intro a hst
          refine l_on hst rfl rfl rfl (r_pick hst rfl rfl rfl ?_)
          clear hst; intro a hst
          refine l_op rfl (r_pick hst rfl rfl rfl ?_)
          clear hst; intro a hst
          refine wpList_nil ?_
          refine then_n ?_
          refine x_cond_t hst rfl ?_
          refine wp_skip ?_
          refine then_n ?_
          refine wp_block ?_
          refine wp_region_lit ?_
          refine l_op rfl (r_move hst rfl rfl ?_)
          clear hst; intro a hst
          refine l_op rfl (r_bin hst rfl rfl rfl rfl rfl ?_)
          clear hst; intro a hst
          rw [wrap_in _ (by omega) (by omega)] at hst
          refine l_op rfl (r_assign hst rfl rfl ?_)
          clear hst; intro a hst
          refine wpList_nil ?_
          refine inb_n ?_
          have hst := ((hst.keep (ds := [0, 1, 4, 5, 6]) (.cons rfl (.cons rfl (.cons rfl (.cons rfl (.cons rfl (.nil))))))).drop (.cons_cons _ (.slnil)))
          exact then_k ⟨_, by omega, _, _, hst, by omega, by omega, rfl⟩
        try simp at hc19
        refine l_on hst rfl rfl rfl (r_move hst rfl rfl ?_)
        clear hst; intro a hst
        refine l_on hst rfl rfl rfl (r_move hst rfl rfl ?_)
        clear hst; intro a hst
        refine l_on hst rfl rfl rfl (r_index hst rfl rfl Tu9 (by omega) (by omega) rfl ?_)
        clear hst; intro a by8 hby8 hst
        refine l_on hst rfl rfl rfl (r_bin hst rfl rfl rfl rfl rfl ?_)
        clear hst; intro a hst
        refine l_on hst rfl rfl rfl (r_pick hst rfl rfl rfl ?_)
        clear hst; intro a hst
        refine l_op rfl (r_pick hst rfl rfl rfl ?_)
        clear hst; intro a hst
        refine wpList_nil ?_
        refine then_n ?_
        refine x_cond hst rfl (fun hc20 => ?_) (fun hc20 => ?_)
        · try simp at hc20
          refine wp_skip ?_
          refine then_n ?_
          refine wp_block ?_
          refine wp_region_lit ?_
          refine l_op rfl (r_move hst rfl rfl ?_)
          clear hst; intro a hst
          refine l_op rfl (r_bin hst rfl rfl rfl rfl rfl ?_)
          clear hst; intro a hst
          rw [wrap_in _ (by omega) (by omega)] at hst
          refine l_op rfl (r_assign hst rfl rfl ?_)
          clear hst; intro a hst
          refine wpList_nil ?_
          refine inb_n ?_
          have hst := ((hst.keep (ds := [0, 1, 4, 5, 6]) (.cons rfl (.cons rfl (.cons rfl (.cons rfl (.cons rfl (.nil))))))).drop (.cons_cons _ (.slnil)))
          exact then_k ⟨_, by omega, _, _, hst, by omega, by omega, rfl⟩
        try simp at hc20
        refine wp_exit ?_
        refine then_x ?_
        refine then_x ?_
        refine inb_hit ?_
        refine then_n ?_
        refine wp_seq ?_
        have hpr : i < m := by grind
        refine wp_region_lit ?_
        refine l_op rfl (r_move hst rfl rfl ?_)
        clear hst; intro a hst
        refine l_op rfl (r_move hst rfl rfl ?_)
        clear hst; intro a hst
        refine l_op rfl (r_move hst rfl rfl ?_)
        clear hst; intro a hst
        refine l_op rfl (r_slicestr hst rfl rfl rfl Tu9 (by omega) (by omega) (by omega) rfl ?_)
        clear hst; intro a st4 hst4 hst
        refine l_op rfl (r_assign hst rfl rfl ?_)
        clear hst; intro a hst
        refine wpList_nil ?_
        refine then_n ?_
        refine wp_seq ?_
        refine wp_seq ?_
        refine wp_region_lit ?_
        refine l_op rfl (r_move hst rfl rfl ?_)
        clear hst; intro a hst
        refine l_op rfl (r_call (xs := [(Operand.tmp 53)]) hst rfl Ten57 (key_c _) rfl ?_)
        clear hst; rintro a _ w U ⟨bk, rfl⟩ hst
        refine wpList_nil ?_
        refine then_n ?_
        refine x_cond hst rfl (fun hc21 => ?_) (fun hc21 => ?_)
        · try simp at hc21
          refine wp_seq ?_
          refine wp_region_lit ?_
          refine l_op rfl (r_move hst rfl rfl ?_)
          clear hst; intro a hst
          refine l_op rfl (r_build (ps := [(0, (Operand.const (Value.int IntKind.i64 5))), (1, (Operand.tmp 55))]) hst Tso50 Tz50 (.cons Tf50_0 rfl rfl (.here (.nil (Nat.zero_le _))) (.cons Tf50_1 rfl rfl (.there (.here (.nil (Nat.zero_le _)))) (.nil))) rfl ?_)
          clear hst; intro a hst
          refine l_op rfl (r_store hst rfl rfl rfl Tsz50 rfl (.head (.here (.here (.here (.here (.here (.nil (Nat.zero_le _)))))))) ?_)
          clear hst; intro w hst
          refine wpList_nil ?_
          refine then_n ?_
          refine wp_ret ?_
          refine then_r ?_
          refine then_r ?_
          refine x_ret (rs := [.cell 4 50]) hst rfl (.agg rfl Ta50 (.head _) rfl (.nil)) ?_
          exact ⟨_, _, _, _, _, rfl, by grind⟩
        try simp at hc21
        refine wp_skip ?_
        refine then_n ?_
        refine wp_seq ?_
        refine wp_seq ?_
        refine wp_region_lit ?_
        refine l_op rfl (r_move hst rfl rfl ?_)
        clear hst; intro a hst
        refine l_op rfl (r_call (xs := [(Operand.tmp 57), (Operand.const (Value.int IntKind.i64 1))]) hst rfl Ten58 (word_c _ _ (by omega)) rfl ?_)
        clear hst; rintro a _ w U ⟨bw, rfl⟩ hst
        refine wpList_nil ?_
        refine then_n ?_
        refine x_cond hst rfl (fun hc22 => ?_) (fun hc22 => ?_)
        · try simp at hc22
          refine wp_seq ?_
          refine wp_region_lit ?_
          refine l_op rfl (r_move hst rfl rfl ?_)
          clear hst; intro a hst
          refine l_op rfl (r_build (ps := [(0, (Operand.const (Value.int IntKind.i64 2))), (1, (Operand.tmp 59))]) hst Tso50 Tz50 (.cons Tf50_0 rfl rfl (.here (.nil (Nat.zero_le _))) (.cons Tf50_1 rfl rfl (.there (.here (.nil (Nat.zero_le _)))) (.nil))) rfl ?_)
          clear hst; intro a hst
          refine l_op rfl (r_store hst rfl rfl rfl Tsz50 rfl (.head (.here (.here (.here (.here (.here (.nil (Nat.zero_le _)))))))) ?_)
          clear hst; intro w hst
          refine wpList_nil ?_
          refine then_n ?_
          refine wp_ret ?_
          refine then_r ?_
          refine then_r ?_
          refine x_ret (rs := [.cell 4 50]) hst rfl (.agg rfl Ta50 (.head _) rfl (.nil)) ?_
          exact ⟨_, _, _, _, _, rfl, by grind⟩
        try simp at hc22
        refine wp_skip ?_
        refine then_n ?_
        refine wp_seq ?_
        refine wp_seq ?_
        refine wp_region_lit ?_
        refine l_op rfl (r_move hst rfl rfl ?_)
        clear hst; intro a hst
        refine l_op rfl (r_call (xs := [(Operand.tmp 61), (Operand.const (Value.int IntKind.i64 2))]) hst rfl Ten58 (word_c _ _ (by omega)) rfl ?_)
        clear hst; rintro a _ w U ⟨bw, rfl⟩ hst
        refine wpList_nil ?_
        refine then_n ?_
        refine x_cond hst rfl (fun hc23 => ?_) (fun hc23 => ?_)
        · try simp at hc23
          refine wp_seq ?_
          refine wp_region_lit ?_
          refine l_op rfl (r_move hst rfl rfl ?_)
          clear hst; intro a hst
          refine l_op rfl (r_build (ps := [(0, (Operand.const (Value.int IntKind.i64 3))), (1, (Operand.tmp 63))]) hst Tso50 Tz50 (.cons Tf50_0 rfl rfl (.here (.nil (Nat.zero_le _))) (.cons Tf50_1 rfl rfl (.there (.here (.nil (Nat.zero_le _)))) (.nil))) rfl ?_)
          clear hst; intro a hst
          refine l_op rfl (r_store hst rfl rfl rfl Tsz50 rfl (.head (.here (.here (.here (.here (.here (.nil (Nat.zero_le _)))))))) ?_)
          clear hst; intro w hst
          refine wpList_nil ?_
          refine then_n ?_
          refine wp_ret ?_
          refine then_r ?_
          refine then_r ?_
          refine x_ret (rs := [.cell 4 50]) hst rfl (.agg rfl Ta50 (.head _) rfl (.nil)) ?_
          exact ⟨_, _, _, _, _, rfl, by grind⟩
        try simp at hc23
        refine wp_skip ?_
        refine then_n ?_
        refine wp_seq ?_
        refine wp_region_lit ?_
        refine l_op rfl (r_build (ps := []) hst Tso50 Tz50 (.nil) rfl ?_)
        clear hst; intro a hst
        refine l_op rfl (r_store hst rfl rfl rfl Tsz50 rfl (.head (.here (.here (.here (.here (.here (.nil (Nat.zero_le _)))))))) ?_)
        clear hst; intro w hst
        refine wpList_nil ?_
        refine then_n ?_
        refine wp_ret ?_
        refine then_r ?_
        refine x_ret (rs := [.cell 4 50]) hst rfl (.agg rfl Ta50 (.head _) rfl (.nil)) ?_
        exact ⟨_, _, _, _, _, rfl, by grind⟩
      try simp at hc18
      refine l_off hst rfl rfl rfl (by decide) rfl rfl ?_
      clear hst; intro a hst
      refine l_off hst rfl rfl rfl (by decide) rfl rfl ?_
      clear hst; intro a hst
      refine l_off hst rfl rfl rfl (by decide) rfl rfl ?_
      clear hst; intro a hst
      refine l_off hst rfl rfl rfl (by decide) rfl rfl ?_
      clear hst; intro a hst
      refine l_off hst rfl rfl rfl (by decide) rfl rfl ?_
      clear hst; intro a hst
      refine l_on hst rfl rfl rfl (r_pick hst rfl rfl rfl ?_)
      clear hst; intro a hst
      refine l_on hst rfl rfl rfl (r_move hst rfl rfl ?_)
      clear hst; intro a hst
      refine l_on hst rfl rfl rfl (r_move hst rfl rfl ?_)
      clear hst; intro a hst
      refine l_on hst rfl rfl rfl (r_move hst rfl rfl ?_)
      clear hst; intro a hst
      refine l_on hst rfl rfl rfl (r_index hst rfl rfl Tu9 (by omega) (by omega) rfl ?_)
      clear hst; intro a by9 hby9 hst
      refine l_on hst rfl rfl rfl (r_bin hst rfl rfl rfl rfl rfl ?_)
      clear hst; intro a hst
      refine l_on hst rfl rfl rfl (r_pick hst rfl rfl rfl ?_)
      clear hst; intro a hst
      refine l_op rfl (r_pick hst rfl rfl rfl ?_)
      clear hst; intro a hst
      refine wpList_nil ?_
      refine then_n ?_
      refine x_cond hst rfl (fun hc24 => ?_) (fun hc24 => ?_)
      · try simp at hc24
        refine wp_skip ?_
        refine then_n ?_
        refine wp_block ?_
        refine wp_region_lit ?_
        refine l_op rfl (r_move hst rfl rfl ?_)
        clear hst; intro a hst
        refine l_op rfl (r_bin hst rfl rfl rfl rfl rfl ?_)
        clear hst; intro a hst
        rw [wrap_in _ (by omega) (by omega)] at hst
        refine l_op rfl (r_assign hst rfl rfl ?_)
        clear hst; intro a hst
        refine wpList_nil ?_
        refine inb_n ?_
        have hst := ((hst.keep (ds := [0, 1, 4, 5, 6]) (.cons rfl (.cons rfl (.cons rfl (.cons rfl (.cons rfl (.nil))))))).drop (.cons_cons _ (.slnil)))
        exact then_k ⟨_, by omega, _, _, hst, by omega, by omega, rfl⟩
      try simp at hc24
      refine wp_exit ?_
      refine then_x ?_
      refine then_x ?_
      refine inb_hit ?_
      refine then_n ?_
      refine wp_seq ?_
      have hpr : i < m := by grind
      refine wp_region_lit ?_
      refine l_op rfl (r_move hst rfl rfl ?_)
      clear hst; intro a hst
      refine l_op rfl (r_move hst rfl rfl ?_)
      clear hst; intro a hst
      refine l_op rfl (r_move hst rfl rfl ?_)
      clear hst; intro a hst
      refine l_op rfl (r_slicestr hst rfl rfl rfl Tu9 (by omega) (by omega) (by omega) rfl ?_)
      clear hst; intro a st5 hst5 hst
      refine l_op rfl (r_assign hst rfl rfl ?_)
      clear hst; intro a hst
      refine wpList_nil ?_
      refine then_n ?_
      refine wp_seq ?_
      refine wp_seq ?_
      refine wp_region_lit ?_
      refine l_op rfl (r_move hst rfl rfl ?_)
      clear hst; intro a hst
      refine l_op rfl (r_call (xs := [(Operand.tmp 53)]) hst rfl Ten57 (key_c _) rfl ?_)
      clear hst; rintro a _ w U ⟨bk, rfl⟩ hst
      refine wpList_nil ?_
      refine then_n ?_
      refine x_cond hst rfl (fun hc25 => ?_) (fun hc25 => ?_)
      · try simp at hc25
        refine wp_seq ?_
        refine wp_region_lit ?_
        refine l_op rfl (r_move hst rfl rfl ?_)
        clear hst; intro a hst
        refine l_op rfl (r_build (ps := [(0, (Operand.const (Value.int IntKind.i64 5))), (1, (Operand.tmp 55))]) hst Tso50 Tz50 (.cons Tf50_0 rfl rfl (.here (.nil (Nat.zero_le _))) (.cons Tf50_1 rfl rfl (.there (.here (.nil (Nat.zero_le _)))) (.nil))) rfl ?_)
        clear hst; intro a hst
        refine l_op rfl (r_store hst rfl rfl rfl Tsz50 rfl (.head (.here (.here (.here (.here (.here (.nil (Nat.zero_le _)))))))) ?_)
        clear hst; intro w hst
        refine wpList_nil ?_
        refine then_n ?_
        refine wp_ret ?_
        refine then_r ?_
        refine then_r ?_
        refine x_ret (rs := [.cell 4 50]) hst rfl (.agg rfl Ta50 (.head _) rfl (.nil)) ?_
        exact ⟨_, _, _, _, _, rfl, by grind⟩
      try simp at hc25
      refine wp_skip ?_
      refine then_n ?_
      refine wp_seq ?_
      refine wp_seq ?_
      refine wp_region_lit ?_
      refine l_op rfl (r_move hst rfl rfl ?_)
      clear hst; intro a hst
      refine l_op rfl (r_call (xs := [(Operand.tmp 57), (Operand.const (Value.int IntKind.i64 1))]) hst rfl Ten58 (word_c _ _ (by omega)) rfl ?_)
      clear hst; rintro a _ w U ⟨bw, rfl⟩ hst
      refine wpList_nil ?_
      refine then_n ?_
      refine x_cond hst rfl (fun hc26 => ?_) (fun hc26 => ?_)
      · try simp at hc26
        refine wp_seq ?_
        refine wp_region_lit ?_
        refine l_op rfl (r_move hst rfl rfl ?_)
        clear hst; intro a hst
        refine l_op rfl (r_build (ps := [(0, (Operand.const (Value.int IntKind.i64 2))), (1, (Operand.tmp 59))]) hst Tso50 Tz50 (.cons Tf50_0 rfl rfl (.here (.nil (Nat.zero_le _))) (.cons Tf50_1 rfl rfl (.there (.here (.nil (Nat.zero_le _)))) (.nil))) rfl ?_)
        clear hst; intro a hst
        refine l_op rfl (r_store hst rfl rfl rfl Tsz50 rfl (.head (.here (.here (.here (.here (.here (.nil (Nat.zero_le _)))))))) ?_)
        clear hst; intro w hst
        refine wpList_nil ?_
        refine then_n ?_
        refine wp_ret ?_
        refine then_r ?_
        refine then_r ?_
        refine x_ret (rs := [.cell 4 50]) hst rfl (.agg rfl Ta50 (.head _) rfl (.nil)) ?_
        exact ⟨_, _, _, _, _, rfl, by grind⟩
      try simp at hc26
      refine wp_skip ?_
      refine then_n ?_
      refine wp_seq ?_
      refine wp_seq ?_
      refine wp_region_lit ?_
      refine l_op rfl (r_move hst rfl rfl ?_)
      clear hst; intro a hst
      refine l_op rfl (r_call (xs := [(Operand.tmp 61), (Operand.const (Value.int IntKind.i64 2))]) hst rfl Ten58 (word_c _ _ (by omega)) rfl ?_)
      clear hst; rintro a _ w U ⟨bw, rfl⟩ hst
      refine wpList_nil ?_
      refine then_n ?_
      refine x_cond hst rfl (fun hc27 => ?_) (fun hc27 => ?_)
      · try simp at hc27
        refine wp_seq ?_
        refine wp_region_lit ?_
        refine l_op rfl (r_move hst rfl rfl ?_)
        clear hst; intro a hst
        refine l_op rfl (r_build (ps := [(0, (Operand.const (Value.int IntKind.i64 3))), (1, (Operand.tmp 63))]) hst Tso50 Tz50 (.cons Tf50_0 rfl rfl (.here (.nil (Nat.zero_le _))) (.cons Tf50_1 rfl rfl (.there (.here (.nil (Nat.zero_le _)))) (.nil))) rfl ?_)
        clear hst; intro a hst
        refine l_op rfl (r_store hst rfl rfl rfl Tsz50 rfl (.head (.here (.here (.here (.here (.here (.nil (Nat.zero_le _)))))))) ?_)
        clear hst; intro w hst
        refine wpList_nil ?_
        refine then_n ?_
        refine wp_ret ?_
        refine then_r ?_
        refine then_r ?_
        refine x_ret (rs := [.cell 4 50]) hst rfl (.agg rfl Ta50 (.head _) rfl (.nil)) ?_
        exact ⟨_, _, _, _, _, rfl, by grind⟩
      try simp at hc27
      refine wp_skip ?_
      refine then_n ?_
      refine wp_seq ?_
      refine wp_region_lit ?_
      refine l_op rfl (r_build (ps := []) hst Tso50 Tz50 (.nil) rfl ?_)
      clear hst; intro a hst
      refine l_op rfl (r_store hst rfl rfl rfl Tsz50 rfl (.head (.here (.here (.here (.here (.here (.nil (Nat.zero_le _)))))))) ?_)
      clear hst; intro w hst
      refine wpList_nil ?_
      refine then_n ?_
      refine wp_ret ?_
      refine then_r ?_
      refine x_ret (rs := [.cell 4 50]) hst rfl (.agg rfl Ta50 (.head _) rfl (.nil)) ?_
      exact ⟨_, _, _, _, _, rfl, by grind⟩
    try simp at hc17
    refine l_off hst rfl rfl rfl (by decide) rfl rfl ?_
    clear hst; intro a hst
    refine l_off hst rfl rfl rfl (by decide) rfl rfl ?_
    clear hst; intro a hst
    refine l_off hst rfl rfl rfl (by decide) rfl rfl ?_
    clear hst; intro a hst
    refine l_off hst rfl rfl rfl (by decide) rfl rfl ?_
    clear hst; intro a hst
    refine l_off hst rfl rfl rfl (by decide) rfl rfl ?_
    clear hst; intro a hst
    refine l_off hst rfl rfl rfl (by decide) rfl rfl ?_
    clear hst; intro a hst
    refine l_undef hst rfl rfl rfl rfl rfl ?_
    clear hst; intro a hst
    refine l_undef hst rfl rfl rfl rfl rfl ?_
    clear hst; intro a hst
    refine l_undef hst rfl rfl rfl rfl rfl ?_
    clear hst; intro a hst
    refine l_undef hst rfl rfl rfl rfl rfl ?_
    clear hst; intro a hst
    refine l_undef hst rfl rfl rfl rfl rfl ?_
    clear hst; intro a hst
    refine l_off hst rfl rfl rfl (by decide) rfl rfl ?_
    clear hst; intro a hst
    refine l_off hst rfl rfl rfl (by decide) rfl rfl ?_
    clear hst; intro a hst
    refine l_undef hst rfl rfl rfl rfl rfl ?_
    clear hst; intro a hst
    refine l_undef hst rfl rfl rfl rfl rfl ?_
    clear hst; intro a hst
    refine l_undef hst rfl rfl rfl rfl rfl ?_
    clear hst; intro a hst
    refine l_undef hst rfl rfl rfl rfl rfl ?_
    clear hst; intro a hst
    refine l_off hst rfl rfl rfl (by decide) rfl rfl ?_
    clear hst; intro a hst
    refine l_op rfl (r_pick hst rfl rfl rfl ?_)
    clear hst; intro a hst
    refine wpList_nil ?_
    refine then_n ?_
    refine x_cond_f hst rfl ?_
    refine wp_exit ?_
    refine then_x ?_
    refine then_x ?_
    refine inb_hit ?_
    refine then_n ?_
    refine wp_seq ?_
    have hpr : i < m := by grind
    refine wp_region_lit ?_
    refine l_op rfl (r_move hst rfl rfl ?_)
    clear hst; intro a hst
    refine l_op rfl (r_move hst rfl rfl ?_)
    clear hst; intro a hst
    refine l_op rfl (r_move hst rfl rfl ?_)
    clear hst; intro a hst
    refine l_op rfl (r_slicestr hst rfl rfl rfl Tu9 (by omega) (by omega) (by omega) rfl ?_)
    clear hst; intro a st6 hst6 hst
    refine l_op rfl (r_assign hst rfl rfl ?_)
    clear hst; intro a hst
    refine wpList_nil ?_
    refine then_n ?_
    refine wp_seq ?_
    refine wp_seq ?_
    refine wp_region_lit ?_
    refine l_op rfl (r_move hst rfl rfl ?_)
    clear hst; intro a hst
    refine l_op rfl (r_call (xs := [(Operand.tmp 53)]) hst rfl Ten57 (key_c _) rfl ?_)
    clear hst; rintro a _ w U ⟨bk, rfl⟩ hst
    refine wpList_nil ?_
    refine then_n ?_
    refine x_cond hst rfl (fun hc28 => ?_) (fun hc28 => ?_)
    · try simp at hc28
      refine wp_seq ?_
      refine wp_region_lit ?_
      refine l_op rfl (r_move hst rfl rfl ?_)
      clear hst; intro a hst
      refine l_op rfl (r_build (ps := [(0, (Operand.const (Value.int IntKind.i64 5))), (1, (Operand.tmp 55))]) hst Tso50 Tz50 (.cons Tf50_0 rfl rfl (.here (.nil (Nat.zero_le _))) (.cons Tf50_1 rfl rfl (.there (.here (.nil (Nat.zero_le _)))) (.nil))) rfl ?_)
      clear hst; intro a hst
      refine l_op rfl (r_store hst rfl rfl rfl Tsz50 rfl (.head (.here (.here (.here (.here (.here (.nil (Nat.zero_le _)))))))) ?_)
      clear hst; intro w hst
      refine wpList_nil ?_
      refine then_n ?_
      refine wp_ret ?_
      refine then_r ?_
      refine then_r ?_
      refine x_ret (rs := [.cell 4 50]) hst rfl (.agg rfl Ta50 (.head _) rfl (.nil)) ?_
      exact ⟨_, _, _, _, _, rfl, by grind⟩
    try simp at hc28
    refine wp_skip ?_
    refine then_n ?_
    refine wp_seq ?_
    refine wp_seq ?_
    refine wp_region_lit ?_
    refine l_op rfl (r_move hst rfl rfl ?_)
    clear hst; intro a hst
    refine l_op rfl (r_call (xs := [(Operand.tmp 57), (Operand.const (Value.int IntKind.i64 1))]) hst rfl Ten58 (word_c _ _ (by omega)) rfl ?_)
    clear hst; rintro a _ w U ⟨bw, rfl⟩ hst
    refine wpList_nil ?_
    refine then_n ?_
    refine x_cond hst rfl (fun hc29 => ?_) (fun hc29 => ?_)
    · try simp at hc29
      refine wp_seq ?_
      refine wp_region_lit ?_
      refine l_op rfl (r_move hst rfl rfl ?_)
      clear hst; intro a hst
      refine l_op rfl (r_build (ps := [(0, (Operand.const (Value.int IntKind.i64 2))), (1, (Operand.tmp 59))]) hst Tso50 Tz50 (.cons Tf50_0 rfl rfl (.here (.nil (Nat.zero_le _))) (.cons Tf50_1 rfl rfl (.there (.here (.nil (Nat.zero_le _)))) (.nil))) rfl ?_)
      clear hst; intro a hst
      refine l_op rfl (r_store hst rfl rfl rfl Tsz50 rfl (.head (.here (.here (.here (.here (.here (.nil (Nat.zero_le _)))))))) ?_)
      clear hst; intro w hst
      refine wpList_nil ?_
      refine then_n ?_
      refine wp_ret ?_
      refine then_r ?_
      refine then_r ?_
      refine x_ret (rs := [.cell 4 50]) hst rfl (.agg rfl Ta50 (.head _) rfl (.nil)) ?_
      exact ⟨_, _, _, _, _, rfl, by grind⟩
    try simp at hc29
    refine wp_skip ?_
    refine then_n ?_
    refine wp_seq ?_
    refine wp_seq ?_
    refine wp_region_lit ?_
    refine l_op rfl (r_move hst rfl rfl ?_)
    clear hst; intro a hst
    refine l_op rfl (r_call (xs := [(Operand.tmp 61), (Operand.const (Value.int IntKind.i64 2))]) hst rfl Ten58 (word_c _ _ (by omega)) rfl ?_)
    clear hst; rintro a _ w U ⟨bw, rfl⟩ hst
    refine wpList_nil ?_
    refine then_n ?_
    refine x_cond hst rfl (fun hc30 => ?_) (fun hc30 => ?_)
    · try simp at hc30
      refine wp_seq ?_
      refine wp_region_lit ?_
      refine l_op rfl (r_move hst rfl rfl ?_)
      clear hst; intro a hst
      refine l_op rfl (r_build (ps := [(0, (Operand.const (Value.int IntKind.i64 3))), (1, (Operand.tmp 63))]) hst Tso50 Tz50 (.cons Tf50_0 rfl rfl (.here (.nil (Nat.zero_le _))) (.cons Tf50_1 rfl rfl (.there (.here (.nil (Nat.zero_le _)))) (.nil))) rfl ?_)
      clear hst; intro a hst
      refine l_op rfl (r_store hst rfl rfl rfl Tsz50 rfl (.head (.here (.here (.here (.here (.here (.nil (Nat.zero_le _)))))))) ?_)
      clear hst; intro w hst
      refine wpList_nil ?_
      refine then_n ?_
      refine wp_ret ?_
      refine then_r ?_
      refine then_r ?_
      refine x_ret (rs := [.cell 4 50]) hst rfl (.agg rfl Ta50 (.head _) rfl (.nil)) ?_
      exact ⟨_, _, _, _, _, rfl, by grind⟩
    try simp at hc30
    refine wp_skip ?_
    refine then_n ?_
    refine wp_seq ?_
    refine wp_region_lit ?_
    refine l_op rfl (r_build (ps := []) hst Tso50 Tz50 (.nil) rfl ?_)
    clear hst; intro a hst
    refine l_op rfl (r_store hst rfl rfl rfl Tsz50 rfl (.head (.here (.here (.here (.here (.here (.nil (Nat.zero_le _)))))))) ?_)
    clear hst; intro w hst
    refine wpList_nil ?_
    refine then_n ?_
    refine wp_ret ?_
    refine then_r ?_
    refine x_ret (rs := [.cell 4 50]) hst rfl (.agg rfl Ta50 (.head _) rfl (.nil)) ?_
    exact ⟨_, _, _, _, _, rfl, by grind⟩
  try simp at hc16
  refine wp_skip ?_
  refine then_n ?_
  refine wp_seq ?_
  refine wp_seq ?_
  refine wp_region_lit ?_
  refine l_op rfl (r_move hst rfl rfl ?_)
  clear hst; intro a hst
  refine l_op rfl (r_bin hst rfl rfl rfl rfl rfl ?_)
  clear hst; intro a hst
  refine wpList_nil ?_
  refine then_n ?_
  refine x_cond hst rfl (fun hc31 => ?_) (fun hc31 => ?_)
  · try simp at hc31
    refine wp_seq ?_
    refine wp_block ?_
    have hst := ((hst.keep (ds := [0, 1, 4, 5, 6]) (.cons rfl (.cons rfl (.cons rfl (.cons rfl (.cons rfl (.nil))))))).drop (.cons_cons _ (.slnil)))
    refine wp_loop_ghost (InvTok _ _ s i _ _) (((s.size : Int) - i).toNat) ⟨_, i, hst, by omega, by omega, rfl⟩ ?_
    clear hst
    rintro mz a w ⟨U, m, hst, hi0, hi1, rfl⟩
    refine wp_seq ?_
    refine wp_seq ?_
    refine wp_region_lit ?_
    refine l_op rfl (r_move hst rfl rfl ?_)
    clear hst; intro a hst
    refine l_op rfl (r_move hst rfl rfl ?_)
    clear hst; intro a hst
    refine l_op rfl (r_lenstr hst rfl Tu9 rfl ?_)
    clear hst; intro a hst
    refine l_op rfl (r_bin hst rfl rfl rfl rfl rfl ?_)
    clear hst; intro a hst
    refine l_op rfl (r_move hst rfl rfl ?_)
    clear hst; intro a hst
    refine hst.split (t := 72) rfl (fun hc32 hst => ?_) (fun hc32 hst => ?_)
    · try simp at hc32
      refine l_on hst rfl rfl rfl (r_move hst rfl rfl ?_)
      clear hst; intro a hst
      refine l_on hst rfl rfl rfl (r_move hst rfl rfl ?_)
      clear hst; intro a hst
      refine l_on hst rfl rfl rfl (r_index hst rfl rfl Tu9 (by omega) (by omega) rfl ?_)
      clear hst; intro a by10 hby10 hst
      refine l_on hst rfl rfl rfl (r_call (xs := [(Operand.tmp 75)]) hst rfl Ten56 (class_c _) rfl ?_)
      clear hst; rintro a _ w U ⟨kc10, rfl, hk10a, hk10b, hk10c⟩ hst
      refine l_on hst rfl rfl rfl (r_bin hst rfl rfl rfl rfl rfl ?_)
      clear hst; intro a hst
      refine l_op rfl (r_pick hst rfl rfl rfl ?_)
      clear hst; intro a hst
      refine wpList_nil ?_
      refine then_n ?_
      refine x_cond hst rfl (fun hc33 => ?_) (fun hc33 => ?_)
      · try simp at hc33
        refine wp_skip ?_
        refine then_n ?_
        refine wp_block ?_
        refine wp_region_lit ?_
        refine l_op rfl (r_move hst rfl rfl ?_)
        clear hst; intro a hst
        refine l_op rfl (r_bin hst rfl rfl rfl rfl rfl ?_)
        clear hst; intro a hst
        rw [wrap_in _ (by omega) (by omega)] at hst
        refine l_op rfl (r_assign hst rfl rfl ?_)
        clear hst; intro a hst
        refine wpList_nil ?_
        refine inb_n ?_
        have hst := ((hst.keep (ds := [0, 1, 4, 5, 6]) (.cons rfl (.cons rfl (.cons rfl (.cons rfl (.cons rfl (.nil))))))).drop (.cons_cons _ (.slnil)))
        exact then_k ⟨_, by omega, _, _, hst, by omega, by omega, rfl⟩
      try simp at hc33
      refine wp_exit ?_
      refine then_x ?_
      refine then_x ?_
      refine inb_hit ?_
      refine then_n ?_
      refine wp_seq ?_
      have hpr : i < m := by grind
      refine wp_region_lit ?_
      refine l_op rfl (r_move hst rfl rfl ?_)
      clear hst; intro a hst
      refine l_op rfl (r_move hst rfl rfl ?_)
      clear hst; intro a hst
      refine l_op rfl (r_move hst rfl rfl ?_)
      clear hst; intro a hst
      refine l_op rfl (r_slicestr hst rfl rfl rfl Tu9 (by omega) (by omega) (by omega) rfl ?_)
      clear hst; intro a st7 hst7 hst
      refine l_op rfl (r_call (xs := [(Operand.tmp 85)]) hst rfl Ten59 (number_c _ (by omega)) rfl ?_)
      clear hst; rintro a _ w U ⟨kn, bn, rfl⟩ hst
      refine l_op rfl (r_move hst rfl rfl ?_)
      clear hst; intro a hst
      refine l_op rfl (r_extract hst rfl rfl rfl ?_)
      clear hst; intro a hst
      refine l_op rfl (r_extract hst rfl rfl rfl ?_)
      clear hst; intro a hst
      refine l_op rfl (r_assign hst rfl rfl ?_)
      clear hst; intro a hst
      refine l_op rfl (r_assign hst rfl rfl ?_)
      clear hst; intro a hst
      refine wpList_nil ?_
      refine then_n ?_
      refine wp_seq ?_
      refine wp_seq ?_
      refine wp_region_lit ?_
      refine l_op rfl (r_move hst rfl rfl ?_)
      clear hst; intro a hst
      refine l_op rfl (r_not hst rfl rfl ?_)
      clear hst; intro a hst
      refine wpList_nil ?_
      refine then_n ?_
      refine x_cond hst rfl (fun hc34 => ?_) (fun hc34 => ?_)
      · try simp at hc34
        refine wp_seq ?_
        refine wp_region_lit ?_
        refine l_op rfl (r_build (ps := []) hst Tso50 Tz50 (.nil) rfl ?_)
        clear hst; intro a hst
        refine l_op rfl (r_store hst rfl rfl rfl Tsz50 rfl (.head (.here (.here (.here (.here (.here (.nil (Nat.zero_le _)))))))) ?_)
        clear hst; intro w hst
        refine wpList_nil ?_
        refine then_n ?_
        refine wp_ret ?_
        refine then_r ?_
        refine then_r ?_
        refine x_ret (rs := [.cell 4 50]) hst rfl (.agg rfl Ta50 (.head _) rfl (.nil)) ?_
        exact ⟨_, _, _, _, _, rfl, by grind⟩
      try simp at hc34
      refine wp_skip ?_
      refine then_n ?_
      refine wp_seq ?_
      refine wp_region_lit ?_
      refine l_op rfl (r_move hst rfl rfl ?_)
      clear hst; intro a hst
      refine l_op rfl (r_move hst rfl rfl ?_)
      clear hst; intro a hst
      refine l_op rfl (r_move hst rfl rfl ?_)
      clear hst; intro a hst
      refine l_op rfl (r_slicestr hst rfl rfl rfl Tu9 (by omega) (by omega) (by omega) rfl ?_)
      clear hst; intro a st8 hst8 hst
      refine l_op rfl (r_move hst rfl rfl ?_)
      clear hst; intro a hst
      refine l_op rfl (r_build (ps := [(0, (Operand.const (Value.int IntKind.i64 4))), (1, (Operand.tmp 95)), (2, (Operand.tmp 96))]) hst Tso50 Tz50 (.cons Tf50_0 rfl rfl (.here (.nil (Nat.zero_le _))) (.cons Tf50_1 rfl rfl (.there (.here (.nil (Nat.zero_le _)))) (.cons Tf50_2 rfl rfl (.there (.there (.here (.nil (Nat.zero_le _))))) (.nil)))) rfl ?_)
      clear hst; intro a hst
      refine l_op rfl (r_store hst rfl rfl rfl Tsz50 rfl (.head (.here (.here (.here (.here (.here (.nil (Nat.zero_le _)))))))) ?_)
      clear hst; intro w hst
      refine wpList_nil ?_
      refine then_n ?_
      refine wp_ret ?_
      refine then_r ?_
      refine x_ret (rs := [.cell 4 50]) hst rfl (.agg rfl Ta50 (.head _) rfl (.nil)) ?_
      exact ⟨_, _, _, _, _, rfl, by grind⟩
    try simp at hc32
    refine l_off hst rfl rfl rfl (by decide) rfl rfl ?_
    clear hst; intro a hst
    refine l_off hst rfl rfl rfl (by decide) rfl rfl ?_
    clear hst; intro a hst
    refine l_off hst rfl rfl rfl (by decide) rfl rfl ?_
    clear hst; intro a hst
    refine l_off hst rfl rfl rfl (by decide) rfl rfl ?_
    clear hst; intro a hst
    refine l_off hst rfl rfl rfl (by decide) rfl rfl ?_
    clear hst; intro a hst
    refine l_op rfl (r_pick hst rfl rfl rfl ?_)
    clear hst; intro a hst
    refine wpList_nil ?_
    refine then_n ?_
    refine x_cond_f hst rfl ?_
    refine wp_exit ?_
    refine then_x ?_
    refine then_x ?_
    refine inb_hit ?_
    refine then_n ?_
    refine wp_seq ?_
    have hpr : i < m := by grind
    refine wp_region_lit ?_
    refine l_op rfl (r_move hst rfl rfl ?_)
    clear hst; intro a hst
    refine l_op rfl (r_move hst rfl rfl ?_)
    clear hst; intro a hst
    refine l_op rfl (r_move hst rfl rfl ?_)
    clear hst; intro a hst
    refine l_op rfl (r_slicestr hst rfl rfl rfl Tu9 (by omega) (by omega) (by omega) rfl ?_)
    clear hst; intro a st9 hst9 hst
    refine l_op rfl (r_call (xs := [(Operand.tmp 85)]) hst rfl Ten59 (number_c _ (by omega)) rfl ?_)
    clear hst; rintro a _ w U ⟨kn, bn, rfl⟩ hst
    refine l_op rfl (r_move hst rfl rfl ?_)
    clear hst; intro a hst
    refine l_op rfl (r_extract hst rfl rfl rfl ?_)
    clear hst; intro a hst
    refine l_op rfl (r_extract hst rfl rfl rfl ?_)
    clear hst; intro a hst
    refine l_op rfl (r_assign hst rfl rfl ?_)
    clear hst; intro a hst
    refine l_op rfl (r_assign hst rfl rfl ?_)
    clear hst; intro a hst
    refine wpList_nil ?_
    refine then_n ?_
    refine wp_seq ?_
    refine wp_seq ?_
    refine wp_region_lit ?_
    refine l_op rfl (r_move hst rfl rfl ?_)
    clear hst; intro a hst
    refine l_op rfl (r_not hst rfl rfl ?_)
    clear hst; intro a hst
    refine wpList_nil ?_
    refine then_n ?_
    refine x_cond hst rfl (fun hc35 => ?_) (fun hc35 => ?_)
    · try simp at hc35
      refine wp_seq ?_
      refine wp_region_lit ?_
      refine l_op rfl (r_build (ps := []) hst Tso50 Tz50 (.nil) rfl ?_)
      clear hst; intro a hst
      refine l_op rfl (r_store hst rfl rfl rfl Tsz50 rfl (.head (.here (.here (.here (.here (.here (.nil (Nat.zero_le _)))))))) ?_)
      clear hst; intro w hst
      refine wpList_nil ?_
      refine then_n ?_
      refine wp_ret ?_
      refine then_r ?_
      refine then_r ?_
      refine x_ret (rs := [.cell 4 50]) hst rfl (.agg rfl Ta50 (.head _) rfl (.nil)) ?_
      exact ⟨_, _, _, _, _, rfl, by grind⟩
    try simp at hc35
    refine wp_skip ?_
    refine then_n ?_
    refine wp_seq ?_
    refine wp_region_lit ?_
    refine l_op rfl (r_move hst rfl rfl ?_)
    clear hst; intro a hst
    refine l_op rfl (r_move hst rfl rfl ?_)
    clear hst; intro a hst
    refine l_op rfl (r_move hst rfl rfl ?_)
    clear hst; intro a hst
    refine l_op rfl (r_slicestr hst rfl rfl rfl Tu9 (by omega) (by omega) (by omega) rfl ?_)
    clear hst; intro a st10 hst10 hst
    refine l_op rfl (r_move hst rfl rfl ?_)
    clear hst; intro a hst
    refine l_op rfl (r_build (ps := [(0, (Operand.const (Value.int IntKind.i64 4))), (1, (Operand.tmp 95)), (2, (Operand.tmp 96))]) hst Tso50 Tz50 (.cons Tf50_0 rfl rfl (.here (.nil (Nat.zero_le _))) (.cons Tf50_1 rfl rfl (.there (.here (.nil (Nat.zero_le _)))) (.cons Tf50_2 rfl rfl (.there (.there (.here (.nil (Nat.zero_le _))))) (.nil)))) rfl ?_)
    clear hst; intro a hst
    refine l_op rfl (r_store hst rfl rfl rfl Tsz50 rfl (.head (.here (.here (.here (.here (.here (.nil (Nat.zero_le _)))))))) ?_)
    clear hst; intro w hst
    refine wpList_nil ?_
    refine then_n ?_
    refine wp_ret ?_
    refine then_r ?_
    refine x_ret (rs := [.cell 4 50]) hst rfl (.agg rfl Ta50 (.head _) rfl (.nil)) ?_
    exact ⟨_, _, _, _, _, rfl, by grind⟩
  try simp at hc31
  refine wp_skip ?_
  refine then_n ?_
  refine wp_seq ?_
  refine wp_seq ?_
  refine wp_region_lit ?_
  refine l_op rfl (r_call (xs := []) hst rfl Ten60 (symbols_c) rfl ?_)
  clear hst; rintro a _ w U ⟨Ay, my, cy, tsy, rfl, hmy, hsy⟩ hst
  have hst := hst.addFact (Sl.mono _ _ _) hsy
  refine l_op rfl (r_lensl hst rfl Tu39 rfl ?_)
  clear hst; intro a hst
  refine l_op rfl (r_move hst rfl rfl ?_)
  clear hst; intro a hst
  refine wpList_nil ?_
  refine then_n ?_
  refine wp_block ?_
  have hst := ((hst.keep (ds := [0, 1, 4, 5, 98, 99, 100]) (.cons rfl (.cons rfl (.cons rfl (.cons rfl (.cons rfl (.cons rfl (.cons rfl (.nil))))))))).drop (.cons_cons _ (.slnil)))
  have hst := hst.newFact (Sl.mono _ _ _) hst.fact.1
  refine wp_loop_ghost (InvSym _ _ s i _ _ Ay my cy tsy) (my) ⟨_, 0, hst, by omega, by omega, by omega⟩ ?_
  clear hst
  rintro mz a w ⟨U, m, hst, hi0, hi1, rfl⟩
  refine wp_seq ?_
  refine wp_region_lit ?_
  refine l_op rfl (r_bin hst rfl rfl rfl rfl rfl ?_)
  clear hst; intro a hst
  refine wpList_nil ?_
  refine then_n ?_
  refine wp_seq ?_
  refine x_cond hst rfl (fun hc36 => ?_) (fun hc36 => ?_)
  · try simp at hc36
    refine wp_skip ?_
    refine then_n ?_
    refine wp_seq ?_
    refine wp_block ?_
    refine wp_seq ?_
    obtain ⟨_, _, hat⟩ := hst.fact.at
    obtain ⟨g, o, cs, t, rfl, _, _, ⟨s', rfl, _, hs1, hs2⟩, hel⟩ := hat m.toNat (by omega)
    refine wp_region_lit ?_
    refine l_op rfl (r_indexAddr hst rfl rfl Tu39 Tsz9 (hi0) (by omega) rfl ?_)
    clear hst; intro a hst
    refine l_op rfl (r_loads' hst rfl Ts9 ((hel 0 _ rfl).2) rfl ?_)
    clear hst; intro a hst
    refine l_op rfl (r_assign hst rfl rfl ?_)
    clear hst; intro a hst
    refine wpList_nil ?_
    refine then_n ?_
    refine wp_seq ?_
    refine wp_region_lit ?_
    refine l_op rfl (r_move hst rfl rfl ?_)
    clear hst; intro a hst
    refine l_op rfl (r_move hst rfl rfl ?_)
    clear hst; intro a hst
    refine l_op rfl (r_move hst rfl rfl ?_)
    clear hst; intro a hst
    refine l_op rfl (r_call (xs := [(Operand.tmp 104), (Operand.tmp 105), (Operand.tmp 106)]) hst rfl Ten37 (starts_s _ _ _ (by omega) (by omega) (by omega) (by omega)) rfl ?_)
    clear hst; rintro a _ w U ⟨bs, rfl⟩ hst
    refine wpList_nil ?_
    refine then_n ?_
    refine x_cond hst rfl (fun hc37 => ?_) (fun hc37 => ?_)
    · try simp at hc37
      refine wp_seq ?_
      refine wp_region_lit ?_
      refine l_op rfl (r_move hst rfl rfl ?_)
      clear hst; intro a hst
      refine l_op rfl (r_build (ps := [(0, (Operand.const (Value.int IntKind.i64 6))), (1, (Operand.tmp 108))]) hst Tso50 Tz50 (.cons Tf50_0 rfl rfl (.here (.nil (Nat.zero_le _))) (.cons Tf50_1 rfl rfl (.there (.here (.nil (Nat.zero_le _)))) (.nil))) rfl ?_)
      clear hst; intro a hst
      refine l_op rfl (r_store hst rfl rfl rfl Tsz50 rfl (.head (.here (.here (.here (.here (.here (.nil (Nat.zero_le _)))))))) ?_)
      clear hst; intro w hst
      refine wpList_nil ?_
      refine then_n ?_
      refine wp_ret ?_
      refine inb_r ?_
      refine then_r ?_
      refine then_r ?_
      refine inb_r ?_
      refine then_r ?_
      refine x_ret (rs := [.cell 4 50]) hst rfl (.agg rfl Ta50 (.head _) rfl (.nil)) ?_
      exact ⟨_, _, _, _, _, rfl, by grind⟩
    try simp at hc37
    refine wp_skip ?_
    refine inb_n ?_
    refine then_n ?_
    refine wp_region_lit ?_
    refine l_op rfl (r_bin hst rfl rfl rfl rfl rfl ?_)
    clear hst; intro a hst
    rw [wrap_in _ (by omega) (by omega)] at hst
    refine l_op rfl (r_move hst rfl rfl ?_)
    clear hst; intro a hst
    refine wpList_nil ?_
    have hst := ((hst.keep (ds := [0, 1, 4, 5, 98, 99, 100]) (.cons rfl (.cons rfl (.cons rfl (.cons rfl (.cons rfl (.cons rfl (.cons rfl (.nil))))))))).drop (.cons_cons _ (.slnil)))
    exact then_k ⟨_, by omega, _, _, hst, by omega, by omega, rfl⟩
  try simp at hc36
  refine wp_exit ?_
  refine then_x ?_
  refine then_x ?_
  refine inb_hit ?_
  refine then_n ?_
  refine wp_seq ?_
  refine wp_region_lit ?_
  refine l_op rfl (r_build (ps := []) hst Tso50 Tz50 (.nil) rfl ?_)
  clear hst; intro a hst
  refine l_op rfl (r_store hst rfl rfl rfl Tsz50 rfl (.head (.here (.here (.here (.here (.here (.nil (Nat.zero_le _)))))))) ?_)
  clear hst; intro w hst
  refine wpList_nil ?_
  refine then_n ?_
  refine wp_ret ?_
  refine x_ret (rs := [.cell 4 50]) hst rfl (.agg rfl Ta50 (.head _) rfl (.nil)) ?_
  exact ⟨_, _, _, _, _, rfl, by grind⟩

def InvScan (w0 : World) (U0 : Mk) (s : ByteArray) (g1 : Nat) (lo : Int) (mz : Nat) (a : Act) (w : World) : Prop :=
  ∃ (U : Mk) (i ln cl : Int) (B : Option Addr) (l cc : Nat) (xs : List Value) (ts : List Unit),
    Sta w0 U0 93 [(0, .string s), (2, .slice none 0 0), (3, .int .i64 0), (4, .pointer (some ⟨g1, 0, none⟩)), (5, .slice B l cc), (6, .int .i64 ln), (7, .int .i64 cl), (8, .int .i64 i)] [⟨g1, 28, [.int .i64 0, .int .i64 0]⟩] [⟨.slice B l cc, 50, 5, l⟩] (fun w U => Cont (.slice B l cc) xs w U ∧ Flat kK xs ts w U) a w U ∧
    lo ≤ i ∧ i ≤ 10000 ∧ ts.length = l ∧ l ≤ cc ∧ xs.length = l * 5 ∧ l ≤ 2 * i ∧ mz = (10000 - i).toNat

theorem scan_c {w : World} {U : Mk} (s : ByteArray) (hsm : s.size ≤ 140737488355328) :
    CallsS Tryz.prog 11 [.string s] w U (fun v w' U' => ∃ (A : Option Addr) (n c : Nat) (e p q : Int), v = .tuple #[.slice A n c, .int .i64 e, .agg #[.int .i64 p, .int .i64 q]] ∧ n ≤ 1000000 ∧ Toks A n w' U') := by
  refine x_enter (F := fun _ _ => True) (n := 93) Tryz.func11 rfl rfl (by simp) (.cons (d := 0) rfl (.nil)) (Mono.true_) (trivial) ?_
  intro a hst
  refine wp_seq ?_
  refine wp_region_lit ?_
  refine l_op rfl (r_assign hst rfl rfl ?_)
  clear hst; intro a hst
  refine l_op rfl (r_assign hst rfl rfl ?_)
  clear hst; intro a hst
  refine l_op rfl (r_alloc hst Tz28 rfl ?_)
  clear hst; intro a w g1 hst
  refine wpList_nil ?_
  refine then_n ?_
  refine wp_seq ?_
  refine wp_seq ?_
  refine wp_region_lit ?_
  refine l_op rfl (r_move hst rfl rfl ?_)
  clear hst; intro a hst
  refine l_op rfl (r_lenstr hst rfl Tu9 rfl ?_)
  clear hst; intro a hst
  refine l_op rfl (r_bin hst rfl rfl rfl rfl rfl ?_)
  clear hst; intro a hst
  refine wpList_nil ?_
  refine then_n ?_
  refine x_cond hst rfl (fun hc1 => ?_) (fun hc1 => ?_)
  · try simp at hc1
    refine wp_seq ?_
    refine wp_region_lit ?_
    refine l_op rfl (r_build (ps := []) hst Tso28 Tz28 (.nil) rfl ?_)
    clear hst; intro a hst
    refine l_op rfl (r_assign hst rfl rfl ?_)
    clear hst; intro a hst
    refine l_op rfl (r_assign hst rfl rfl ?_)
    clear hst; intro a hst
    refine l_op rfl (r_store hst rfl rfl rfl Tsz28 rfl (.head (.here (.here (.nil (Nat.zero_le _))))) ?_)
    clear hst; intro w hst
    refine wpList_nil ?_
    refine then_n ?_
    refine wp_ret ?_
    refine then_r ?_
    refine x_ret (rs := [.tmp 2, .tmp 3, .cell 4 28]) hst rfl (.tmp rfl (.tmp rfl (.agg rfl Ta28 (.head _) rfl (.nil)))) ?_
    exact ⟨_, _, _, _, _, _, rfl, by omega, Toks.none_ _ _⟩
  try simp at hc1
  refine wp_skip ?_
  refine then_n ?_
  refine wp_seq ?_
  refine wp_region_lit ?_
  refine l_op rfl (r_assign hst rfl rfl ?_)
  clear hst; intro a hst
  refine wpList_nil ?_
  refine then_n ?_
  refine wp_seq ?_
  refine wp_region_lit ?_
  refine l_op rfl (r_assign hst rfl rfl ?_)
  clear hst; intro a hst
  refine l_op rfl (r_assign hst rfl rfl ?_)
  clear hst; intro a hst
  refine wpList_nil ?_
  refine then_n ?_
  refine wp_seq ?_
  refine wp_region_lit ?_
  refine l_op rfl (r_assign hst rfl rfl ?_)
  clear hst; intro a hst
  refine wpList_nil ?_
  refine then_n ?_
  refine wp_seq ?_
  refine wp_block ?_
  have hst := (((hst.keep (ds := [0, 2, 3, 4, 5, 6, 7, 8]) (.cons rfl (.cons rfl (.cons rfl (.cons rfl (.cons rfl (.cons rfl (.cons rfl (.cons rfl (.nil)))))))))).drop (.cons_cons _ (.slnil)))).row_nil 50 (sz := 5) (by decide)
  have hst := hst.newFact (G := fun w U => Cont (.slice none 0 0) [] w U ∧ Flat kK [] [] w U) (Mono.and (Cont.mono _ _) (Flat.mono kK _ _)) ⟨Cont.nil _ _ _, Flat.nil _ _ _⟩
  refine wp_loop_ghost (InvScan _ _ s _ 0) 10000 ⟨_, 0, _, _, _, _, _, _, _, hst, by omega, by omega, rfl, by omega, rfl, by omega, rfl⟩ ?_
  clear hst
  rintro mz a w ⟨U, i, ln, cl, B, l, cc, xs, ts, hst, hi0, hi1, hl, hcc, hxl, hli, rfl⟩
  refine wp_seq ?_
  refine wp_seq ?_
  refine wp_region_lit ?_
  refine l_op rfl (r_move hst rfl rfl ?_)
  clear hst; intro a hst
  refine l_op rfl (r_move hst rfl rfl ?_)
  clear hst; intro a hst
  refine l_op rfl (r_lenstr hst rfl Tu9 rfl ?_)
  clear hst; intro a hst
  refine l_op rfl (r_bin hst rfl rfl rfl rfl rfl ?_)
  clear hst; intro a hst
  refine wpList_nil ?_
  refine then_n ?_
  refine x_cond hst rfl (fun hc2 => ?_) (fun hc2 => ?_)
  · try simp at hc2
    refine wp_skip ?_
    refine then_n ?_
    refine wp_block ?_
    refine wp_seq ?_
    refine wp_seq ?_
    refine wp_region_lit ?_
    refine l_op rfl (r_move hst rfl rfl ?_)
    clear hst; intro a hst
    refine l_op rfl (r_move hst rfl rfl ?_)
    clear hst; intro a hst
    refine l_op rfl (r_index hst rfl rfl Tu9 (by omega) (by omega) rfl ?_)
    clear hst; intro a by1 hby1 hst
    refine l_op rfl (r_bin hst rfl rfl rfl rfl rfl ?_)
    clear hst; intro a hst
    refine wpList_nil ?_
    refine then_n ?_
    refine x_cond hst rfl (fun hc3 => ?_) (fun hc3 => ?_)
    · try simp at hc3
      refine wp_seq ?_
      refine wp_region_lit ?_
      refine l_op rfl (r_move hst rfl rfl ?_)
      clear hst; intro a hst
      refine l_op rfl (r_bin hst rfl rfl rfl rfl rfl ?_)
      clear hst; intro a hst
      generalize IntKind.i64.wrap (ln + 1) = z1 at hst
      refine l_op rfl (r_assign hst rfl rfl ?_)
      clear hst; intro a hst
      refine wpList_nil ?_
      refine then_n ?_
      refine wp_seq ?_
      refine wp_region_lit ?_
      refine l_op rfl (r_assign hst rfl rfl ?_)
      clear hst; intro a hst
      refine wpList_nil ?_
      refine then_n ?_
      refine wp_seq ?_
      refine wp_region_lit ?_
      refine l_op rfl (r_move hst rfl rfl ?_)
      clear hst; intro a hst
      refine l_op rfl (r_bin hst rfl rfl rfl rfl rfl ?_)
      clear hst; intro a hst
      rw [wrap_in _ (by omega) (by omega)] at hst
      refine l_op rfl (r_assign hst rfl rfl ?_)
      clear hst; intro a hst
      refine wpList_nil ?_
      refine then_n ?_
      refine wp_exit ?_
      refine then_x ?_
      refine inb_hit ?_
      have hst := ((hst.keep (ds := [0, 2, 3, 4, 5, 6, 7, 8]) (.cons rfl (.cons rfl (.cons rfl (.cons rfl (.cons rfl (.cons rfl (.cons rfl (.cons rfl (.nil)))))))))).drop (.cons_cons _ (.slnil)))
      exact then_k ⟨_, by omega, _, _, _, _, _, _, _, _, _, hst, by omega, by omega, by first | exact hl | simp [hl], by first | exact hcc | exact hcc2 | exact hcc3, by first | exact hxl | (simp [hxl]; omega), by omega, rfl⟩
    try simp at hc3
    refine wp_skip ?_
    refine then_n ?_
    refine wp_seq ?_
    refine wp_seq ?_
    refine wp_region_lit ?_
    refine l_op rfl (r_move hst rfl rfl ?_)
    clear hst; intro a hst
    refine l_op rfl (r_move hst rfl rfl ?_)
    clear hst; intro a hst
    refine l_op rfl (r_index hst rfl rfl Tu9 (by omega) (by omega) rfl ?_)
    clear hst; intro a by2 hby2 hst
    refine l_op rfl (r_bin hst rfl rfl rfl rfl rfl ?_)
    clear hst; intro a hst
    refine wpList_nil ?_
    refine then_n ?_
    refine x_cond hst rfl (fun hc4 => ?_) (fun hc4 => ?_)
    · try simp at hc4
      refine wp_seq ?_
      refine wp_region_lit ?_
      refine l_op rfl (r_move hst rfl rfl ?_)
      clear hst; intro a hst
      refine l_op rfl (r_bin hst rfl rfl rfl rfl rfl ?_)
      clear hst; intro a hst
      generalize IntKind.i64.wrap (cl + 1) = z1 at hst
      refine l_op rfl (r_assign hst rfl rfl ?_)
      clear hst; intro a hst
      refine wpList_nil ?_
      refine then_n ?_
      refine wp_seq ?_
      refine wp_region_lit ?_
      refine l_op rfl (r_move hst rfl rfl ?_)
      clear hst; intro a hst
      refine l_op rfl (r_bin hst rfl rfl rfl rfl rfl ?_)
      clear hst; intro a hst
      rw [wrap_in _ (by omega) (by omega)] at hst
      refine l_op rfl (r_assign hst rfl rfl ?_)
      clear hst; intro a hst
      refine wpList_nil ?_
      refine then_n ?_
      refine wp_exit ?_
      refine then_x ?_
      refine inb_hit ?_
      have hst := ((hst.keep (ds := [0, 2, 3, 4, 5, 6, 7, 8]) (.cons rfl (.cons rfl (.cons rfl (.cons rfl (.cons rfl (.cons rfl (.cons rfl (.cons rfl (.nil)))))))))).drop (.cons_cons _ (.slnil)))
      exact then_k ⟨_, by omega, _, _, _, _, _, _, _, _, _, hst, by omega, by omega, by first | exact hl | simp [hl], by first | exact hcc | exact hcc2 | exact hcc3, by first | exact hxl | (simp [hxl]; omega), by omega, rfl⟩
    try simp at hc4
    refine wp_skip ?_
    refine then_n ?_
    refine wp_seq ?_
    refine wp_seq ?_
    refine wp_region_lit ?_
    refine l_op rfl (r_move hst rfl rfl ?_)
    clear hst; intro a hst
    refine l_op rfl (r_move hst rfl rfl ?_)
    clear hst; intro a hst
    refine l_op rfl (r_call (xs := [(Operand.tmp 35), (Operand.tmp 36), (Operand.const (Value.string { data := #[45, 45] }))]) hst rfl Ten37 (starts_s _ _ _ (by omega) (by decide) (by omega) (by omega)) rfl ?_)
    clear hst; rintro a _ w U ⟨bs, rfl⟩ hst
    refine wpList_nil ?_
    refine then_n ?_
    refine x_cond hst rfl (fun hc5 => ?_) (fun hc5 => ?_)
    · try simp at hc5
      refine wp_seq ?_
      refine wp_block ?_
      have hst := ((hst.keep (ds := [0, 2, 3, 4, 5, 6, 7, 8]) (.cons rfl (.cons rfl (.cons rfl (.cons rfl (.cons rfl (.cons rfl (.cons rfl (.cons rfl (.nil)))))))))).drop (.cons_cons _ (.slnil)))
      refine wp_loop_ghost (InvScan _ _ s _ i) (10000 - i).toNat ⟨_, i, _, _, _, _, _, _, _, hst, by omega, by omega, hl, hcc, hxl, hli, rfl⟩ ?_
      clear hst
      clear hl hcc hxl
      rintro mz a w ⟨U, i', ln', cl', B', l', cc', xs', ts', hst, hj0, hj1, hl, hcc, hxl, hlj, rfl⟩
      refine wp_seq ?_
      refine wp_seq ?_
      refine wp_region_lit ?_
      refine l_op rfl (r_move hst rfl rfl ?_)
      clear hst; intro a hst
      refine l_op rfl (r_move hst rfl rfl ?_)
      clear hst; intro a hst
      refine l_op rfl (r_lenstr hst rfl Tu9 rfl ?_)
      clear hst; intro a hst
      refine l_op rfl (r_bin hst rfl rfl rfl rfl rfl ?_)
      clear hst; intro a hst
      refine l_op rfl (r_move hst rfl rfl ?_)
      clear hst; intro a hst
      refine hst.split (t := 42) rfl (fun hc6 hst => ?_) (fun hc6 hst => ?_)
      · try simp at hc6
        refine l_on hst rfl rfl rfl (r_move hst rfl rfl ?_)
        clear hst; intro a hst
        refine l_on hst rfl rfl rfl (r_move hst rfl rfl ?_)
        clear hst; intro a hst
        refine l_on hst rfl rfl rfl (r_index hst rfl rfl Tu9 (by omega) (by omega) rfl ?_)
        clear hst; intro a by3 hby3 hst
        refine l_on hst rfl rfl rfl (r_bin hst rfl rfl rfl rfl rfl ?_)
        clear hst; intro a hst
        refine l_op rfl (r_pick hst rfl rfl rfl ?_)
        clear hst; intro a hst
        refine wpList_nil ?_
        refine then_n ?_
        refine x_cond hst rfl (fun hc7 => ?_) (fun hc7 => ?_)
        · try simp at hc7
          refine wp_skip ?_
          refine then_n ?_
          refine wp_block ?_
          refine wp_seq ?_
          refine wp_region_lit ?_
          refine l_op rfl (r_move hst rfl rfl ?_)
          clear hst; intro a hst
          refine l_op rfl (r_bin hst rfl rfl rfl rfl rfl ?_)
          clear hst; intro a hst
          rw [wrap_in _ (by omega) (by omega)] at hst
          refine l_op rfl (r_assign hst rfl rfl ?_)
          clear hst; intro a hst
          refine wpList_nil ?_
          refine then_n ?_
          refine wp_region_lit ?_
          refine l_op rfl (r_move hst rfl rfl ?_)
          clear hst; intro a hst
          refine l_op rfl (r_bin hst rfl rfl rfl rfl rfl ?_)
          clear hst; intro a hst
          generalize IntKind.i64.wrap (cl' + 1) = z1 at hst
          refine l_op rfl (r_assign hst rfl rfl ?_)
          clear hst; intro a hst
          refine wpList_nil ?_
          refine inb_n ?_
          have hst := ((hst.keep (ds := [0, 2, 3, 4, 5, 6, 7, 8]) (.cons rfl (.cons rfl (.cons rfl (.cons rfl (.cons rfl (.cons rfl (.cons rfl (.cons rfl (.nil)))))))))).drop (.cons_cons _ (.slnil)))
          exact then_k ⟨_, by omega, _, _, _, _, _, _, _, _, _, hst, by omega, by omega, by first | exact hl | simp [hl], by first | exact hcc | exact hcc2 | exact hcc3, by first | exact hxl | (simp [hxl]; omega), by omega, rfl⟩
        try simp at hc7
        refine wp_exit ?_
        refine then_x ?_
        refine then_x ?_
        refine inb_hit ?_
        refine then_n ?_
        refine wp_exit ?_
        refine then_x ?_
        refine inb_hit ?_
        have hpr : i < i' := by grind
        have hst := ((hst.keep (ds := [0, 2, 3, 4, 5, 6, 7, 8]) (.cons rfl (.cons rfl (.cons rfl (.cons rfl (.cons rfl (.cons rfl (.cons rfl (.cons rfl (.nil)))))))))).drop (.cons_cons _ (.slnil)))
        exact then_k ⟨_, by omega, _, _, _, _, _, _, _, _, _, hst, by omega, by omega, by first | exact hl | simp [hl], by first | exact hcc | exact hcc2 | exact hcc3, by first | exact hxl | (simp [hxl]; omega), by omega, rfl⟩
      try simp at hc6
      refine l_off hst rfl rfl rfl (by decide) rfl rfl ?_
      clear hst; intro a hst
      refine l_off hst rfl rfl rfl (by decide) rfl rfl ?_
      clear hst; intro a hst
      refine l_off hst rfl rfl rfl (by decide) rfl rfl ?_
      clear hst; intro a hst
      refine l_off hst rfl rfl rfl (by decide) rfl rfl ?_
      clear hst; intro a hst
      refine l_op rfl (r_pick hst rfl rfl rfl ?_)
      clear hst; intro a hst
      refine wpList_nil ?_
      refine then_n ?_
      refine x_cond_f hst rfl ?_
      refine wp_exit ?_
      refine then_x ?_
      refine then_x ?_
      refine inb_hit ?_
      refine then_n ?_
      refine wp_exit ?_
      refine then_x ?_
      refine inb_hit ?_
      have hpr : i < i' := by grind
      have hst := ((hst.keep (ds := [0, 2, 3, 4, 5, 6, 7, 8]) (.cons rfl (.cons rfl (.cons rfl (.cons rfl (.cons rfl (.cons rfl (.cons rfl (.cons rfl (.nil)))))))))).drop (.cons_cons _ (.slnil)))
      exact then_k ⟨_, by omega, _, _, _, _, _, _, _, _, _, hst, by omega, by omega, by first | exact hl | simp [hl], by first | exact hcc | exact hcc2 | exact hcc3, by first | exact hxl | (simp [hxl]; omega), by omega, rfl⟩
    try simp at hc5
    refine wp_skip ?_
    refine then_n ?_
    refine wp_seq ?_
    refine wp_region_lit ?_
    refine l_op rfl (r_move hst rfl rfl ?_)
    clear hst; intro a hst
    refine l_op rfl (r_move hst rfl rfl ?_)
    clear hst; intro a hst
    refine l_op rfl (r_call (xs := [(Operand.tmp 52), (Operand.tmp 53)]) hst rfl Ten38 (token_c _ _ (by omega) (by omega) (by omega)) rfl ?_)
    clear hst; rintro a _ w U ⟨kt, mt, xt, yt, tt, rfl, htt⟩ hst
    refine l_op rfl (r_alloc hst Tz50 rfl ?_)
    clear hst; intro a w g2 hst
    refine l_op rfl (r_store hst rfl rfl rfl Tsz50 rfl (.head (.here (.here (.here (.here (.here (.nil (Nat.zero_le _)))))))) ?_)
    clear hst; intro w hst
    refine wpList_nil ?_
    refine then_n ?_
    refine wp_seq ?_
    refine wp_region_lit ?_
    refine l_op rfl (r_move hst rfl rfl ?_)
    clear hst; intro a hst
    refine l_op rfl (r_move hst rfl rfl ?_)
    clear hst; intro a hst
    refine l_op rfl (r_build (ps := [(0, (Operand.tmp 55)), (1, (Operand.tmp 56))]) hst Tso28 Tz28 (.cons Tf28_0 rfl rfl (.here (.nil (Nat.zero_le _))) (.cons Tf28_1 rfl rfl (.there (.here (.nil (Nat.zero_le _)))) (.nil))) rfl ?_)
    clear hst; intro a hst
    refine l_op rfl (r_alloc hst Tz28 rfl ?_)
    clear hst; intro a w g3 hst
    refine l_op rfl (r_store hst rfl rfl rfl Tsz28 rfl (.head (.here (.here (.nil (Nat.zero_le _))))) ?_)
    clear hst; intro w hst
    refine wpList_nil ?_
    refine then_n ?_
    refine wp_seq ?_
    refine wp_seq ?_
    refine wp_region_lit ?_
    refine l_op rfl (r_fieldAddr hst rfl Tf50_0 rfl ?_)
    clear hst; intro a hst
    refine l_op rfl (r_loads hst rfl Ts3 (.tail _ (.head _)) rfl rfl ?_)
    clear hst; intro a hst
    refine l_op rfl (r_bin hst rfl rfl rfl rfl rfl ?_)
    clear hst; intro a hst
    refine wpList_nil ?_
    refine then_n ?_
    refine x_cond hst rfl (fun hc8 => ?_) (fun hc8 => ?_)
    · try simp at hc8
      refine wp_seq ?_
      refine x_drawh (by kernel_rfl) hst (.cons_cons _ (.cons _ (.cons _ (.slnil)))) ?_
      clear hst; intro w hst
      refine h_take (i := 0) hst (.cons_cons _ (.cons _ (.cons _ (.slnil)))) rfl rfl rfl rfl (by kernel_rfl) (by kernel_rfl) (by kernel_rfl) (fun _ _ _ h => h) (fun _ _ _ _ hst => q_loada hst rfl Ta28 (.head _) (.cons rfl (.cons rfl (.nil))) rfl) ?_
      clear hst; intro a hst
      refine h_take (i := 1) hst (.cons_cons _ (.cons _ (.cons _ (.slnil)))) rfl rfl rfl rfl (by kernel_rfl) (by kernel_rfl) (by kernel_rfl) (fun _ _ _ h => h) (fun _ _ _ _ hst => q_assign hst rfl) ?_
      clear hst; intro a hst
      refine h_take (i := 2) hst (.cons_cons _ (.cons _ (.cons _ (.slnil)))) rfl rfl rfl rfl (by kernel_rfl) (by kernel_rfl) (by kernel_rfl) (fun _ _ _ h => h) (fun _ _ _ _ hst => q_assign hst rfl) ?_
      clear hst; intro a hst
      refine h_one (i := 3) (by kernel_rfl) rfl rfl (r_store hst rfl rfl rfl Tsz28 rfl (.tail (.tail (.head (.here (.here (.nil (Nat.zero_le _))))))) ?_)
      clear hst; intro w hst
      refine ⟨hst.held (.cons_cons _ (.cons _ (.cons _ (.slnil)))), ?_⟩
      refine h_done (by kernel_rfl) ?_
      refine then_n ?_
      refine wp_ret ?_
      refine then_r ?_
      refine inb_r ?_
      refine then_r ?_
      refine inb_r ?_
      refine then_r ?_
      refine x_ret (rs := [.tmp 2, .tmp 3, .cell 4 28]) hst rfl (.tmp rfl (.tmp rfl (.agg rfl Ta28 (.tail _ (.tail _ (.head _))) rfl (.nil)))) ?_
      exact ⟨_, _, _, _, _, _, rfl, by omega, Toks.none_ _ _⟩
    try simp at hc8
    refine wp_skip ?_
    refine then_n ?_
    refine wp_seq ?_
    refine wp_region_lit ?_
    refine l_op rfl (r_loada hst rfl Ta28 (.head _) (.cons rfl (.cons rfl (.nil))) rfl rfl ?_)
    clear hst; intro a hst
    refine l_op rfl (r_fieldAddr hst rfl Tf50_3 rfl ?_)
    clear hst; intro a hst
    refine l_op rfl (r_store hst rfl rfl rfl Tsz28 rfl (.tail (.head (.there (.there (.there (.here (.here (.nil (Nat.zero_le _))))))))) ?_)
    clear hst; intro w hst
    refine wpList_nil ?_
    refine then_n ?_
    refine wp_seq ?_
    refine wp_seq ?_
    refine wp_region_lit ?_
    refine l_op rfl (r_move hst rfl rfl ?_)
    clear hst; intro a hst
    refine l_op rfl (r_bin hst rfl rfl rfl rfl rfl ?_)
    clear hst; intro a hst
    refine wpList_nil ?_
    refine then_n ?_
    refine x_cond hst rfl (fun hc9 => ?_) (fun hc9 => ?_)
    · try simp at hc9
      refine wp_region_lit ?_
      refine l_op rfl (r_move hst rfl rfl ?_)
      clear hst; intro a hst
      refine l_op rfl (r_loada hst rfl Ta28 (.head _) (.cons rfl (.cons rfl (.nil))) rfl rfl ?_)
      clear hst; intro a hst
      refine l_op rfl (r_build (ps := [(0, (Operand.const (Value.int IntKind.i64 1))), (3, (Operand.tmp 67))]) hst Tso50 Tz50 (.cons Tf50_0 rfl rfl (.here (.nil (Nat.zero_le _))) (.cons Tf50_3 rfl rfl (.there (.there (.there (.here (.here (.nil (Nat.zero_le _))))))) (.nil))) rfl ?_)
      clear hst; intro a hst
      refine l_op rfl (r_slice1 hst Tu44 Tsz50 Tz50 rfl (by decide) (by decide) rfl rfl rfl rfl ?_)
      clear hst; intro a w g4 hst
      refine l_op rfl (r_append hst rfl rfl Tet44 (.head _) rfl (by decide) rfl hst.fact.1 (by first | exact hxl | (simp [hxl]; omega)) (by omega) (by omega) rfl ?_)
      clear hst; intro a v w U hext hcont hv hst
      obtain ⟨B2, c2, rfl, hcc2⟩ := hv
      have hcf := cf_snoc (K := kK) hcont hst.fact.2 () ⟨_, _, _, _, _, rfl⟩
      have hst := hst.newFact (Mono.and (Cont.mono _ _) (Flat.mono kK _ _)) hcf
      refine l_op rfl (r_assign hst rfl rfl ?_)
      clear hst; intro a hst
      refine wpList_nil ?_
      refine then_n ?_
      refine wp_seq ?_
      refine wp_region_lit ?_
      refine l_op rfl (r_move hst rfl rfl ?_)
      clear hst; intro a hst
      refine l_op rfl (r_loada hst rfl Ta50 (.tail _ (.tail _ (.head _))) (.cons rfl (.cons rfl (.cons rfl (.cons rfl (.cons rfl (.nil)))))) rfl rfl ?_)
      clear hst; intro a hst
      refine l_op rfl (r_slice1 hst Tu44 Tsz50 Tz50 rfl (by decide) (by decide) rfl rfl rfl rfl ?_)
      clear hst; intro a w g5 hst
      refine l_op rfl (r_append hst rfl rfl Tet44 (.head _) rfl (by decide) rfl hst.fact.1 (by first | exact hxl | (simp [hxl]; omega)) (by omega) (by omega) rfl ?_)
      clear hst; intro a v w U hext hcont hv hst
      obtain ⟨B3, c3, rfl, hcc3⟩ := hv
      have hcf := cf_snoc (K := kK) hcont hst.fact.2 () ⟨_, _, _, _, _, rfl⟩
      have hst := hst.newFact (Mono.and (Cont.mono _ _) (Flat.mono kK _ _)) hcf
      refine l_op rfl (r_assign hst rfl rfl ?_)
      clear hst; intro a hst
      refine wpList_nil ?_
      refine then_n ?_
      refine wp_seq ?_
      refine wp_region_lit ?_
      refine l_op rfl (r_move hst rfl rfl ?_)
      clear hst; intro a hst
      refine l_op rfl (r_fieldAddr hst rfl Tf50_1 rfl ?_)
      clear hst; intro a hst
      refine l_op rfl (r_loads hst rfl Ts9 (.tail _ (.tail _ (.tail _ (.head _)))) rfl rfl ?_)
      clear hst; intro a hst
      refine l_op rfl (r_lenstr hst rfl Tu9 rfl ?_)
      clear hst; intro a hst
      refine l_op rfl (r_bin hst rfl rfl rfl rfl rfl ?_)
      clear hst; intro a hst
      rw [wrap_in _ (by omega) (by omega)] at hst
      refine l_op rfl (r_assign hst rfl rfl ?_)
      clear hst; intro a hst
      refine wpList_nil ?_
      refine then_n ?_
      refine wp_region_lit ?_
      refine l_op rfl (r_move hst rfl rfl ?_)
      clear hst; intro a hst
      refine l_op rfl (r_fieldAddr hst rfl Tf50_1 rfl ?_)
      clear hst; intro a hst
      refine l_op rfl (r_loads hst rfl Ts9 (.tail _ (.tail _ (.tail _ (.head _)))) rfl rfl ?_)
      clear hst; intro a hst
      refine l_op rfl (r_lenstr hst rfl Tu9 rfl ?_)
      clear hst; intro a hst
      refine l_op rfl (r_bin hst rfl rfl rfl rfl rfl ?_)
      clear hst; intro a hst
      generalize IntKind.i64.wrap (cl + (tt.size : Int)) = z2 at hst
      refine l_op rfl (r_assign hst rfl rfl ?_)
      clear hst; intro a hst
      refine wpList_nil ?_
      refine inb_n ?_
      have hst := ((hst.keep (ds := [0, 2, 3, 4, 5, 6, 7, 8]) (.cons rfl (.cons rfl (.cons rfl (.cons rfl (.cons rfl (.cons rfl (.cons rfl (.cons rfl (.nil)))))))))).drop (.cons _ (.cons _ (.cons _ (.cons _ (.cons_cons _ (.slnil)))))))
      exact then_k ⟨_, by omega, _, _, _, _, _, _, _, _, _, hst, by omega, by omega, by first | exact hl | simp [hl], by first | exact hcc | exact hcc2 | exact hcc3, by first | exact hxl | (simp [hxl]; omega), by omega, rfl⟩
    try simp at hc9
    refine wp_skip ?_
    refine then_n ?_
    refine wp_seq ?_
    refine wp_region_lit ?_
    refine l_op rfl (r_move hst rfl rfl ?_)
    clear hst; intro a hst
    refine l_op rfl (r_loada hst rfl Ta50 (.tail _ (.head _)) (.cons rfl (.cons rfl (.cons rfl (.cons rfl (.cons rfl (.nil)))))) rfl rfl ?_)
    clear hst; intro a hst
    refine l_op rfl (r_slice1 hst Tu44 Tsz50 Tz50 rfl (by decide) (by decide) rfl rfl rfl rfl ?_)
    clear hst; intro a w g4 hst
    refine l_op rfl (r_append hst rfl rfl Tet44 (.head _) rfl (by decide) rfl hst.fact.1 (by first | exact hxl | (simp [hxl]; omega)) (by omega) (by omega) rfl ?_)
    clear hst; intro a v w U hext hcont hv hst
    obtain ⟨B3, c3, rfl, hcc3⟩ := hv
    have hcf := cf_snoc (K := kK) hcont hst.fact.2 () ⟨_, _, _, _, _, rfl⟩
    have hst := hst.newFact (Mono.and (Cont.mono _ _) (Flat.mono kK _ _)) hcf
    refine l_op rfl (r_assign hst rfl rfl ?_)
    clear hst; intro a hst
    refine wpList_nil ?_
    refine then_n ?_
    refine wp_seq ?_
    refine wp_region_lit ?_
    refine l_op rfl (r_move hst rfl rfl ?_)
    clear hst; intro a hst
    refine l_op rfl (r_fieldAddr hst rfl Tf50_1 rfl ?_)
    clear hst; intro a hst
    refine l_op rfl (r_loads hst rfl Ts9 (.tail _ (.tail _ (.head _))) rfl rfl ?_)
    clear hst; intro a hst
    refine l_op rfl (r_lenstr hst rfl Tu9 rfl ?_)
    clear hst; intro a hst
    refine l_op rfl (r_bin hst rfl rfl rfl rfl rfl ?_)
    clear hst; intro a hst
    rw [wrap_in _ (by omega) (by omega)] at hst
    refine l_op rfl (r_assign hst rfl rfl ?_)
    clear hst; intro a hst
    refine wpList_nil ?_
    refine then_n ?_
    refine wp_region_lit ?_
    refine l_op rfl (r_move hst rfl rfl ?_)
    clear hst; intro a hst
    refine l_op rfl (r_fieldAddr hst rfl Tf50_1 rfl ?_)
    clear hst; intro a hst
    refine l_op rfl (r_loads hst rfl Ts9 (.tail _ (.tail _ (.head _))) rfl rfl ?_)
    clear hst; intro a hst
    refine l_op rfl (r_lenstr hst rfl Tu9 rfl ?_)
    clear hst; intro a hst
    refine l_op rfl (r_bin hst rfl rfl rfl rfl rfl ?_)
    clear hst; intro a hst
    generalize IntKind.i64.wrap (cl + (tt.size : Int)) = z2 at hst
    refine l_op rfl (r_assign hst rfl rfl ?_)
    clear hst; intro a hst
    refine wpList_nil ?_
    refine inb_n ?_
    have hst := ((hst.keep (ds := [0, 2, 3, 4, 5, 6, 7, 8]) (.cons rfl (.cons rfl (.cons rfl (.cons rfl (.cons rfl (.cons rfl (.cons rfl (.cons rfl (.nil)))))))))).drop (.cons _ (.cons _ (.cons _ (.cons_cons _ (.slnil))))))
    exact then_k ⟨_, by omega, _, _, _, _, _, _, _, _, _, hst, by omega, by omega, by first | exact hl | simp [hl], by first | exact hcc | exact hcc2 | exact hcc3, by first | exact hxl | (simp [hxl]; omega), by omega, rfl⟩
  try simp at hc2
  refine wp_exit ?_
  refine then_x ?_
  refine then_x ?_
  refine inb_hit ?_
  refine then_n ?_
  refine wp_seq ?_
  refine wp_region_lit ?_
  refine l_op rfl (r_move hst rfl rfl ?_)
  clear hst; intro a hst
  refine l_op rfl (r_move hst rfl rfl ?_)
  clear hst; intro a hst
  refine l_op rfl (r_move hst rfl rfl ?_)
  clear hst; intro a hst
  refine l_op rfl (r_build (ps := [(0, (Operand.tmp 86)), (1, (Operand.tmp 87))]) hst Tso28 Tz28 (.cons Tf28_0 rfl rfl (.here (.nil (Nat.zero_le _))) (.cons Tf28_1 rfl rfl (.there (.here (.nil (Nat.zero_le _)))) (.nil))) rfl ?_)
  clear hst; intro a hst
  refine l_op rfl (r_build (ps := [(3, (Operand.tmp 88))]) hst Tso50 Tz50 (.cons Tf50_3 rfl rfl (.there (.there (.there (.here (.here (.nil (Nat.zero_le _))))))) (.nil)) rfl ?_)
  clear hst; intro a hst
  refine l_op rfl (r_slice1 hst Tu44 Tsz50 Tz50 rfl (by decide) (by decide) rfl rfl rfl rfl ?_)
  clear hst; intro a w g2 hst
  refine l_op rfl (r_append hst rfl rfl Tet44 (.head _) rfl (by decide) rfl hst.fact.1 (by first | exact hxl | (simp [hxl]; omega)) (by omega) (by omega) rfl ?_)
  clear hst; intro a v w U hext hcont hv hst
  obtain ⟨B4, c4, rfl, hcc4⟩ := hv
  have hcf := cf_snoc (K := kK) hcont hst.fact.2 () ⟨_, _, _, _, _, rfl⟩
  have hst := hst.newFact (Mono.and (Cont.mono _ _) (Flat.mono kK _ _)) hcf
  refine l_op rfl (r_build (ps := []) hst Tso28 Tz28 (.nil) rfl ?_)
  clear hst; intro a hst
  refine l_op rfl (r_assign hst rfl rfl ?_)
  clear hst; intro a hst
  refine l_op rfl (r_assign hst rfl rfl ?_)
  clear hst; intro a hst
  refine l_op rfl (r_store hst rfl rfl rfl Tsz28 rfl (.tail (.head (.here (.here (.nil (Nat.zero_le _)))))) ?_)
  clear hst; intro w hst
  refine wpList_nil ?_
  refine then_n ?_
  refine wp_ret ?_
  refine x_ret (rs := [.tmp 2, .tmp 3, .cell 4 28]) hst rfl (.tmp rfl (.tmp rfl (.agg rfl Ta28 (.tail _ (.head _)) rfl (.nil)))) ?_
  exact ⟨_, _, _, _, _, _, rfl, by omega, toks_of_sl (Sl.of_flat hst.fact.1 hst.fact.2 (by simp [hl]) hcc4)⟩
end Go.Proofs.YtjnjkbmegfkiiaaGreat
