/- Functions that compare. -/
import Derived.Test.YtjnjkbmegfkiiaaGreatT
import Derived.Test.YtjnjkbmegfkiiaaGreatX8
namespace Go.Proofs.YtjnjkbmegfkiiaaGreat
open Go.RowKit
set_option maxRecDepth 10000
set_option linter.unusedVariables false
set_option linter.unusedSimpArgs false
attribute [local irreducible] Oper.wp Code.wp wpList wpAny wpOp Calls CallsS
def Invtexts (w0 : World) (U0 : Mk) (A : Option Addr) (l c : Nat) (ts : List (List UInt8)) (A' : Option Addr) (l' c' : Nat) (us : List (List UInt8)) (mz : Nat) (a : Act) (w : World) : Prop :=
  ∃ (U : Mk) (i : Int), Sta w0 U0 26 [(0, .slice A l c), (1, .slice A' l' c'), (12, .int .i64 (l : Int)), (13, .int .i64 i)] [] [] (fun w U => Sl kS (.slice A l c) ts w U ∧ Sl kS (.slice A' l' c') us w U) a w U ∧ 0 ≤ i ∧ i ≤ l ∧ ts.take i.toNat = us.take i.toNat ∧ mz = ((l : Int) - i).toNat

theorem texts_c {w : World} {U : Mk} {A : Option Addr} {l c : Nat} {A' : Option Addr} {l' c' : Nat} (ts us : List (List UInt8)) (hA : Sl kS (.slice A l c) ts w U) (hB : Sl kS (.slice A' l' c') us w U) :
    CallsS Tryz.prog 26 [.slice A l c, .slice A' l' c'] w U (fun v _ _ => ∃ b : Bool, v = .bool b ∧ (b = true ↔ ts = us)) := by
  refine x_enter (F := fun w U => Sl kS (.slice A l c) ts w U ∧ Sl kS (.slice A' l' c') us w U) (n := 26) Tryz.func26 rfl rfl (by simp) (.cons (d := 0) rfl (.cons (d := 1) rfl (.nil))) (Mono.and (Sl.mono _ _ _) (Sl.mono _ _ _)) (⟨hA, hB⟩) ?_
  intro a hst
  refine wp_seq ?_
  refine wp_region_lit ?_
  refine l_op rfl (r_assign hst rfl rfl ?_)
  clear hst; intro a hst
  refine wpList_nil ?_
  refine then_n ?_
  refine wp_seq ?_
  refine wp_seq ?_
  have hl1 := hst.fact.1.len
  have hl2 := hst.fact.2.len
  refine wp_region_lit ?_
  refine l_op rfl (r_move hst rfl rfl ?_)
  clear hst; intro a hst
  refine l_op rfl (r_lensl hst rfl Tu39 rfl ?_)
  clear hst; intro a hst
  refine l_op rfl (r_move hst rfl rfl ?_)
  clear hst; intro a hst
  refine l_op rfl (r_lensl hst rfl Tu39 rfl ?_)
  clear hst; intro a hst
  refine l_op rfl (r_bin hst rfl rfl rfl rfl rfl ?_)
  clear hst; intro a hst
  refine wpList_nil ?_
  refine then_n ?_
  refine x_cond hst rfl (fun hc1 => ?_) (fun hc1 => ?_)
  · try simp only [n1, n2, n3, n4, n5, n6, n7, n8, n9, na, nb] at hc1
    refine wp_seq ?_
    refine wp_region_lit ?_
    refine l_op rfl (r_assign hst rfl rfl ?_)
    clear hst; intro a hst
    refine wpList_nil ?_
    refine then_n ?_
    refine wp_ret ?_
    refine then_r ?_
    refine x_ret (rs := [.tmp 4]) hst rfl (.tmp rfl (.nil)) ?_
    exact ⟨_, rfl, ⟨fun h => absurd h (by decide), fun h => absurd h (eq_len hl1.1 hl2.1 (by omega))⟩⟩
  try simp only [n1, n2, n3, n4, n5, n6, n7, n8, n9, na, nb] at hc1
  refine wp_skip ?_
  refine then_n ?_
  refine wp_seq ?_
  refine wp_seq ?_
  refine wp_region_lit ?_
  refine l_op rfl (r_move hst rfl rfl ?_)
  clear hst; intro a hst
  refine l_op rfl (r_lensl hst rfl Tu39 rfl ?_)
  clear hst; intro a hst
  refine l_op rfl (r_move hst rfl rfl ?_)
  clear hst; intro a hst
  refine wpList_nil ?_
  refine then_n ?_
  refine wp_block ?_
  have hst := ((hst.keep (ds := [0, 1, 12, 13]) (.cons rfl (.cons rfl (.cons rfl (.cons rfl (.nil)))))).drop (.slnil))
  refine wp_loop_ghost (Invtexts _ _ A l c ts A' l' c' us) (l) ⟨_, 0, hst, by omega, by omega, rfl, by omega⟩ ?_
  clear hst
  rintro mz a w ⟨U, i, hst, hi0, hi1, htk, rfl⟩
  refine wp_seq ?_
  refine wp_region_lit ?_
  refine l_op rfl (r_bin hst rfl rfl rfl rfl rfl ?_)
  clear hst; intro a hst
  refine wpList_nil ?_
  refine then_n ?_
  refine wp_seq ?_
  refine x_cond hst rfl (fun hc2 => ?_) (fun hc2 => ?_)
  · try simp only [n1, n2, n3, n4, n5, n6, n7, n8, n9, na, nb] at hc2
    refine wp_skip ?_
    refine then_n ?_
    refine wp_seq ?_
    refine wp_block ?_
    refine wp_seq ?_
    refine wp_region_lit ?_
    refine l_op rfl (r_move hst rfl rfl ?_)
    clear hst; intro a hst
    refine l_op rfl (r_assign hst rfl rfl ?_)
    clear hst; intro a hst
    refine wpList_nil ?_
    refine then_n ?_
    refine wp_seq ?_
    obtain ⟨g, o, cs, t, rfl, ht, hR, hel⟩ := hst.fact.1.at_ i.toNat (by omega)
    obtain ⟨g', o', ds, u, rfl, hu, hR', hel'⟩ := hst.fact.2.at_ i.toNat (by omega)
    obtain ⟨s, rfl, rfl⟩ := hR
    obtain ⟨s', rfl, rfl⟩ := hR'
    have hst := (hst.addFact (Eat.mono _ _ _) hel).addFact (Eat.mono _ _ _) hel'
    refine x_drawf (by kernel_rfl) hst (.slnil) ?_
    clear hst; intro w hS hst
    refine f_take (i := 0) hS hst (.slnil) rfl rfl rfl rfl (by kernel_rfl) (by kernel_rfl) (by kernel_rfl) (fun _ _ _ h => h) (fun _ _ _ _ hst => q_move hst rfl) ?_
    clear hst; intro a hst
    refine f_take (i := 1) hS hst (.slnil) rfl rfl rfl rfl (by kernel_rfl) (by kernel_rfl) (by kernel_rfl) (fun _ _ _ h => h) (fun _ _ _ _ hst => q_move hst rfl) ?_
    clear hst; intro a hst
    refine f_take (i := 2) hS hst (.slnil) rfl rfl rfl rfl (by kernel_rfl) (by kernel_rfl) (by kernel_rfl) (fun _ _ _ h => h) (fun _ _ _ _ hst => q_indexAddr hst rfl rfl Tu39 Tsz9 (hi0) (by omega)) ?_
    clear hst; intro a hst
    refine f_take (i := 3) hS hst (.slnil) rfl rfl rfl rfl (by kernel_rfl) (by kernel_rfl) (by kernel_rfl) (fun _ _ _ h => h) (fun _ _ _ _ hst => q_eats hst rfl Ts9 (hst.fact.2.1) (j := 0) rfl rfl) ?_
    clear hst; intro a hst
    refine f_take (i := 4) hS hst (.slnil) rfl rfl rfl rfl (by kernel_rfl) (by kernel_rfl) (by kernel_rfl) (fun _ _ _ h => h) (fun _ _ _ _ hst => q_move hst rfl) ?_
    clear hst; intro a hst
    refine f_take (i := 5) hS hst (.slnil) rfl rfl rfl rfl (by kernel_rfl) (by kernel_rfl) (by kernel_rfl) (fun _ _ _ h => h) (fun _ _ _ _ hst => q_move hst rfl) ?_
    clear hst; intro a hst
    refine f_take (i := 6) hS hst (.slnil) rfl rfl rfl rfl (by kernel_rfl) (by kernel_rfl) (by kernel_rfl) (fun _ _ _ h => h) (fun _ _ _ _ hst => q_indexAddr hst rfl rfl Tu39 Tsz9 (hi0) (by omega)) ?_
    clear hst; intro a hst
    refine f_take (i := 7) hS hst (.slnil) rfl rfl rfl rfl (by kernel_rfl) (by kernel_rfl) (by kernel_rfl) (fun _ _ _ h => h) (fun _ _ _ _ hst => q_eats hst rfl Ts9 (hst.fact.1) (j := 0) rfl rfl) ?_
    clear hst; intro a hst
    refine f_take (i := 8) hS hst (.slnil) rfl rfl rfl rfl (by kernel_rfl) (by kernel_rfl) (by kernel_rfl) (fun _ _ _ h => h) (fun _ _ _ _ hst => q_bin hst rfl rfl rfl rfl) ?_
    clear hst; intro a hst
    refine f_done (by kernel_rfl) ?_
    have hst := hS.back hst
    refine then_n ?_
    refine x_cond hst rfl (fun hc3 => ?_) (fun hc3 => ?_)
    · try simp only [n1, n2, n3, n4, n5, n6, n7, n8, n9, na, nb] at hc3
      refine wp_seq ?_
      have hst := hst.setFact (Mono.and (Sl.mono _ _ _) (Sl.mono _ _ _)) (fun h => h.2.2)
      refine wp_region_lit ?_
      refine l_op rfl (r_assign hst rfl rfl ?_)
      clear hst; intro a hst
      refine wpList_nil ?_
      refine then_n ?_
      refine wp_ret ?_
      refine inb_r ?_
      refine then_r ?_
      refine then_r ?_
      refine inb_r ?_
      refine then_r ?_
      refine x_ret (rs := [.tmp 4]) hst rfl (.tmp rfl (.nil)) ?_
      exact ⟨_, rfl, ⟨fun h => absurd h (by decide), fun h => absurd h (eq_ne ht hu (by simp_all))⟩⟩
    try simp only [n1, n2, n3, n4, n5, n6, n7, n8, n9, na, nb] at hc3
    refine wp_skip ?_
    refine inb_n ?_
    refine then_n ?_
    have hst := hst.setFact (Mono.and (Sl.mono _ _ _) (Sl.mono _ _ _)) (fun h => h.2.2)
    refine wp_region_lit ?_
    refine l_op rfl (r_bin hst rfl rfl rfl rfl rfl ?_)
    clear hst; intro a hst
    rw [wrap_in _ (by omega) (by omega)] at hst
    refine l_op rfl (r_move hst rfl rfl ?_)
    clear hst; intro a hst
    refine wpList_nil ?_
    have hst := ((hst.keep (ds := [0, 1, 12, 13]) (.cons rfl (.cons rfl (.cons rfl (.cons rfl (.nil)))))).drop (.slnil))
    exact then_k ⟨_, by omega, _, _, hst, by omega, by omega, eq_next htk hi0 ht hu (by simp_all), rfl⟩
  try simp only [n1, n2, n3, n4, n5, n6, n7, n8, n9, na, nb] at hc2
  refine wp_exit ?_
  refine then_x ?_
  refine then_x ?_
  refine inb_hit ?_
  refine then_n ?_
  refine wp_seq ?_
  refine wp_region_lit ?_
  refine l_op rfl (r_assign hst rfl rfl ?_)
  clear hst; intro a hst
  refine wpList_nil ?_
  refine then_n ?_
  refine wp_ret ?_
  refine x_ret (rs := [.tmp 4]) hst rfl (.tmp rfl (.nil)) ?_
  exact ⟨_, rfl, ⟨fun _ => eq_all htk hl1.1 (hl2.1.trans (by omega)) (by omega), fun _ => rfl⟩⟩

def Inveqstr (w0 : World) (U0 : Mk) (A : Option Addr) (l c : Nat) (ts : List (List UInt8)) (A' : Option Addr) (l' c' : Nat) (us : List (List UInt8)) (mz : Nat) (a : Act) (w : World) : Prop :=
  ∃ (U : Mk) (i : Int), Sta w0 U0 26 [(0, .slice A l c), (1, .slice A' l' c'), (12, .int .i64 (l : Int)), (13, .int .i64 i)] [] [] (fun w U => Sl kS (.slice A l c) ts w U ∧ Sl kS (.slice A' l' c') us w U) a w U ∧ 0 ≤ i ∧ i ≤ l ∧ ts.take i.toNat = us.take i.toNat ∧ mz = ((l : Int) - i).toNat

theorem eqstr_c {w : World} {U : Mk} {A : Option Addr} {l c : Nat} {A' : Option Addr} {l' c' : Nat} (ts us : List (List UInt8)) (hA : Sl kS (.slice A l c) ts w U) (hB : Sl kS (.slice A' l' c') us w U) :
    CallsS Tryz.prog 23 [.slice A l c, .slice A' l' c'] w U (fun v _ _ => ∃ b : Bool, v = .bool b ∧ (b = true ↔ ts = us)) := by
  refine x_enter (F := fun w U => Sl kS (.slice A l c) ts w U ∧ Sl kS (.slice A' l' c') us w U) (n := 26) Tryz.func23 rfl rfl (by simp) (.cons (d := 0) rfl (.cons (d := 1) rfl (.nil))) (Mono.and (Sl.mono _ _ _) (Sl.mono _ _ _)) (⟨hA, hB⟩) ?_
  intro a hst
  refine wp_seq ?_
  refine wp_region_lit ?_
  refine l_op rfl (r_assign hst rfl rfl ?_)
  clear hst; intro a hst
  refine wpList_nil ?_
  refine then_n ?_
  refine wp_seq ?_
  refine wp_seq ?_
  have hl1 := hst.fact.1.len
  have hl2 := hst.fact.2.len
  refine wp_region_lit ?_
  refine l_op rfl (r_move hst rfl rfl ?_)
  clear hst; intro a hst
  refine l_op rfl (r_lensl hst rfl Tu39 rfl ?_)
  clear hst; intro a hst
  refine l_op rfl (r_move hst rfl rfl ?_)
  clear hst; intro a hst
  refine l_op rfl (r_lensl hst rfl Tu39 rfl ?_)
  clear hst; intro a hst
  refine l_op rfl (r_bin hst rfl rfl rfl rfl rfl ?_)
  clear hst; intro a hst
  refine wpList_nil ?_
  refine then_n ?_
  refine x_cond hst rfl (fun hc1 => ?_) (fun hc1 => ?_)
  · try simp only [n1, n2, n3, n4, n5, n6, n7, n8, n9, na, nb] at hc1
    refine wp_seq ?_
    refine wp_region_lit ?_
    refine l_op rfl (r_assign hst rfl rfl ?_)
    clear hst; intro a hst
    refine wpList_nil ?_
    refine then_n ?_
    refine wp_ret ?_
    refine then_r ?_
    refine x_ret (rs := [.tmp 4]) hst rfl (.tmp rfl (.nil)) ?_
    exact ⟨_, rfl, ⟨fun h => absurd h (by decide), fun h => absurd h (eq_len hl1.1 hl2.1 (by omega))⟩⟩
  try simp only [n1, n2, n3, n4, n5, n6, n7, n8, n9, na, nb] at hc1
  refine wp_skip ?_
  refine then_n ?_
  refine wp_seq ?_
  refine wp_seq ?_
  refine wp_region_lit ?_
  refine l_op rfl (r_move hst rfl rfl ?_)
  clear hst; intro a hst
  refine l_op rfl (r_lensl hst rfl Tu39 rfl ?_)
  clear hst; intro a hst
  refine l_op rfl (r_move hst rfl rfl ?_)
  clear hst; intro a hst
  refine wpList_nil ?_
  refine then_n ?_
  refine wp_block ?_
  have hst := ((hst.keep (ds := [0, 1, 12, 13]) (.cons rfl (.cons rfl (.cons rfl (.cons rfl (.nil)))))).drop (.slnil))
  refine wp_loop_ghost (Inveqstr _ _ A l c ts A' l' c' us) (l) ⟨_, 0, hst, by omega, by omega, rfl, by omega⟩ ?_
  clear hst
  rintro mz a w ⟨U, i, hst, hi0, hi1, htk, rfl⟩
  refine wp_seq ?_
  refine wp_region_lit ?_
  refine l_op rfl (r_bin hst rfl rfl rfl rfl rfl ?_)
  clear hst; intro a hst
  refine wpList_nil ?_
  refine then_n ?_
  refine wp_seq ?_
  refine x_cond hst rfl (fun hc2 => ?_) (fun hc2 => ?_)
  · try simp only [n1, n2, n3, n4, n5, n6, n7, n8, n9, na, nb] at hc2
    refine wp_skip ?_
    refine then_n ?_
    refine wp_seq ?_
    refine wp_block ?_
    refine wp_seq ?_
    refine wp_region_lit ?_
    refine l_op rfl (r_move hst rfl rfl ?_)
    clear hst; intro a hst
    refine l_op rfl (r_assign hst rfl rfl ?_)
    clear hst; intro a hst
    refine wpList_nil ?_
    refine then_n ?_
    refine wp_seq ?_
    obtain ⟨g, o, cs, t, rfl, ht, hR, hel⟩ := hst.fact.1.at_ i.toNat (by omega)
    obtain ⟨g', o', ds, u, rfl, hu, hR', hel'⟩ := hst.fact.2.at_ i.toNat (by omega)
    obtain ⟨s, rfl, rfl⟩ := hR
    obtain ⟨s', rfl, rfl⟩ := hR'
    have hst := (hst.addFact (Eat.mono _ _ _) hel).addFact (Eat.mono _ _ _) hel'
    refine x_drawf (by kernel_rfl) hst (.slnil) ?_
    clear hst; intro w hS hst
    refine f_take (i := 0) hS hst (.slnil) rfl rfl rfl rfl (by kernel_rfl) (by kernel_rfl) (by kernel_rfl) (fun _ _ _ h => h) (fun _ _ _ _ hst => q_move hst rfl) ?_
    clear hst; intro a hst
    refine f_take (i := 1) hS hst (.slnil) rfl rfl rfl rfl (by kernel_rfl) (by kernel_rfl) (by kernel_rfl) (fun _ _ _ h => h) (fun _ _ _ _ hst => q_move hst rfl) ?_
    clear hst; intro a hst
    refine f_take (i := 2) hS hst (.slnil) rfl rfl rfl rfl (by kernel_rfl) (by kernel_rfl) (by kernel_rfl) (fun _ _ _ h => h) (fun _ _ _ _ hst => q_indexAddr hst rfl rfl Tu39 Tsz9 (hi0) (by omega)) ?_
    clear hst; intro a hst
    refine f_take (i := 3) hS hst (.slnil) rfl rfl rfl rfl (by kernel_rfl) (by kernel_rfl) (by kernel_rfl) (fun _ _ _ h => h) (fun _ _ _ _ hst => q_eats hst rfl Ts9 (hst.fact.2.1) (j := 0) rfl rfl) ?_
    clear hst; intro a hst
    refine f_take (i := 4) hS hst (.slnil) rfl rfl rfl rfl (by kernel_rfl) (by kernel_rfl) (by kernel_rfl) (fun _ _ _ h => h) (fun _ _ _ _ hst => q_move hst rfl) ?_
    clear hst; intro a hst
    refine f_take (i := 5) hS hst (.slnil) rfl rfl rfl rfl (by kernel_rfl) (by kernel_rfl) (by kernel_rfl) (fun _ _ _ h => h) (fun _ _ _ _ hst => q_move hst rfl) ?_
    clear hst; intro a hst
    refine f_take (i := 6) hS hst (.slnil) rfl rfl rfl rfl (by kernel_rfl) (by kernel_rfl) (by kernel_rfl) (fun _ _ _ h => h) (fun _ _ _ _ hst => q_indexAddr hst rfl rfl Tu39 Tsz9 (hi0) (by omega)) ?_
    clear hst; intro a hst
    refine f_take (i := 7) hS hst (.slnil) rfl rfl rfl rfl (by kernel_rfl) (by kernel_rfl) (by kernel_rfl) (fun _ _ _ h => h) (fun _ _ _ _ hst => q_eats hst rfl Ts9 (hst.fact.1) (j := 0) rfl rfl) ?_
    clear hst; intro a hst
    refine f_take (i := 8) hS hst (.slnil) rfl rfl rfl rfl (by kernel_rfl) (by kernel_rfl) (by kernel_rfl) (fun _ _ _ h => h) (fun _ _ _ _ hst => q_bin hst rfl rfl rfl rfl) ?_
    clear hst; intro a hst
    refine f_done (by kernel_rfl) ?_
    have hst := hS.back hst
    refine then_n ?_
    refine x_cond hst rfl (fun hc3 => ?_) (fun hc3 => ?_)
    · try simp only [n1, n2, n3, n4, n5, n6, n7, n8, n9, na, nb] at hc3
      refine wp_seq ?_
      have hst := hst.setFact (Mono.and (Sl.mono _ _ _) (Sl.mono _ _ _)) (fun h => h.2.2)
      refine wp_region_lit ?_
      refine l_op rfl (r_assign hst rfl rfl ?_)
      clear hst; intro a hst
      refine wpList_nil ?_
      refine then_n ?_
      refine wp_ret ?_
      refine inb_r ?_
      refine then_r ?_
      refine then_r ?_
      refine inb_r ?_
      refine then_r ?_
      refine x_ret (rs := [.tmp 4]) hst rfl (.tmp rfl (.nil)) ?_
      exact ⟨_, rfl, ⟨fun h => absurd h (by decide), fun h => absurd h (eq_ne ht hu (by simp_all))⟩⟩
    try simp only [n1, n2, n3, n4, n5, n6, n7, n8, n9, na, nb] at hc3
    refine wp_skip ?_
    refine inb_n ?_
    refine then_n ?_
    have hst := hst.setFact (Mono.and (Sl.mono _ _ _) (Sl.mono _ _ _)) (fun h => h.2.2)
    refine wp_region_lit ?_
    refine l_op rfl (r_bin hst rfl rfl rfl rfl rfl ?_)
    clear hst; intro a hst
    rw [wrap_in _ (by omega) (by omega)] at hst
    refine l_op rfl (r_move hst rfl rfl ?_)
    clear hst; intro a hst
    refine wpList_nil ?_
    have hst := ((hst.keep (ds := [0, 1, 12, 13]) (.cons rfl (.cons rfl (.cons rfl (.cons rfl (.nil)))))).drop (.slnil))
    exact then_k ⟨_, by omega, _, _, hst, by omega, by omega, eq_next htk hi0 ht hu (by simp_all), rfl⟩
  try simp only [n1, n2, n3, n4, n5, n6, n7, n8, n9, na, nb] at hc2
  refine wp_exit ?_
  refine then_x ?_
  refine then_x ?_
  refine inb_hit ?_
  refine then_n ?_
  refine wp_seq ?_
  refine wp_region_lit ?_
  refine l_op rfl (r_assign hst rfl rfl ?_)
  clear hst; intro a hst
  refine wpList_nil ?_
  refine then_n ?_
  refine wp_ret ?_
  refine x_ret (rs := [.tmp 4]) hst rfl (.tmp rfl (.nil)) ?_
  exact ⟨_, rfl, ⟨fun _ => eq_all htk hl1.1 (hl2.1.trans (by omega)) (by omega), fun _ => rfl⟩⟩

def InveqfT (w0 : World) (U0 : Mk) (A : Option Addr) (l c : Nat) (ts : List TyT) (A' : Option Addr) (l' c' : Nat) (us : List TyT) (f : Nat) (mz : Nat) (a : Act) (w : World) : Prop :=
  ∃ (U : Mk) (i : Int), Sta w0 U0 32 [(1, .slice A' l' c'), (2, .func (.func f) #[] #[]), (15, .slice A l c), (16, .int .i64 (l : Int)), (17, .int .i64 i)] [] [] (fun w U => Sl kT (.slice A l c) ts w U ∧ Sl kT (.slice A' l' c') us w U) a w U ∧ 0 ≤ i ∧ i ≤ l ∧ ts.take i.toNat = us.take i.toNat ∧ mz = ((l : Int) - i).toNat

theorem eqfT_c {w : World} {U : Mk} {A : Option Addr} {l c : Nat} {A' : Option Addr} {l' c' : Nat} (ts us : List TyT) (f : Nat) (hen : Enters Tryz.prog f) (hA : Sl kT (.slice A l c) ts w U) (hB : Sl kT (.slice A' l' c') us w U) (heq : ∀ t u, t ∈ ts → u ∈ us → EqF Tryz.prog f kT [] t u) :
    CallsS Tryz.prog 21 [.slice A l c, .slice A' l' c', .func (.func f) #[] #[]] w U (fun v _ _ => ∃ b : Bool, v = .bool b ∧ (b = true ↔ ts = us)) := by
  refine x_enter (F := fun w U => Sl kT (.slice A l c) ts w U ∧ Sl kT (.slice A' l' c') us w U) (n := 32) Tryz.func21 rfl rfl (by simp) (.cons (d := 0) rfl (.cons (d := 1) rfl (.cons (d := 2) rfl (.nil)))) (Mono.and (Sl.mono _ _ _) (Sl.mono _ _ _)) (⟨hA, hB⟩) ?_
  intro a hst
  refine wp_seq ?_
  refine wp_region_lit ?_
  refine l_op rfl (r_assign hst rfl rfl ?_)
  clear hst; intro a hst
  refine wpList_nil ?_
  refine then_n ?_
  refine wp_seq ?_
  refine wp_seq ?_
  have hl1 := hst.fact.1.len
  have hl2 := hst.fact.2.len
  refine wp_region_lit ?_
  refine l_op rfl (r_move hst rfl rfl ?_)
  clear hst; intro a hst
  refine l_op rfl (r_lensl hst rfl Tu63 rfl ?_)
  clear hst; intro a hst
  refine l_op rfl (r_move hst rfl rfl ?_)
  clear hst; intro a hst
  refine l_op rfl (r_lensl hst rfl Tu63 rfl ?_)
  clear hst; intro a hst
  refine l_op rfl (r_bin hst rfl rfl rfl rfl rfl ?_)
  clear hst; intro a hst
  refine wpList_nil ?_
  refine then_n ?_
  refine x_cond hst rfl (fun hc1 => ?_) (fun hc1 => ?_)
  · try simp only [n1, n2, n3, n4, n5, n6, n7, n8, n9, na, nb] at hc1
    refine wp_seq ?_
    refine wp_region_lit ?_
    refine l_op rfl (r_assign hst rfl rfl ?_)
    clear hst; intro a hst
    refine wpList_nil ?_
    refine then_n ?_
    refine wp_ret ?_
    refine then_r ?_
    refine x_ret (rs := [.tmp 6]) hst rfl (.tmp rfl (.nil)) ?_
    exact ⟨_, rfl, ⟨fun h => absurd h (by decide), fun h => absurd h (eq_len hl1.1 hl2.1 (by omega))⟩⟩
  try simp only [n1, n2, n3, n4, n5, n6, n7, n8, n9, na, nb] at hc1
  refine wp_skip ?_
  refine then_n ?_
  refine wp_seq ?_
  refine wp_seq ?_
  refine wp_region_lit ?_
  refine l_op rfl (r_move hst rfl rfl ?_)
  clear hst; intro a hst
  refine l_op rfl (r_lensl hst rfl Tu63 rfl ?_)
  clear hst; intro a hst
  refine l_op rfl (r_move hst rfl rfl ?_)
  clear hst; intro a hst
  refine wpList_nil ?_
  refine then_n ?_
  refine wp_block ?_
  have hst := ((hst.keep (ds := [1, 2, 15, 16, 17]) (.cons rfl (.cons rfl (.cons rfl (.cons rfl (.cons rfl (.nil))))))).drop (.slnil))
  refine wp_loop_ghost (InveqfT _ _ A l c ts A' l' c' us f) (l) ⟨_, 0, hst, by omega, by omega, rfl, by omega⟩ ?_
  clear hst
  rintro mz a w ⟨U, i, hst, hi0, hi1, htk, rfl⟩
  refine wp_seq ?_
  refine wp_region_lit ?_
  refine l_op rfl (r_bin hst rfl rfl rfl rfl rfl ?_)
  clear hst; intro a hst
  refine wpList_nil ?_
  refine then_n ?_
  refine wp_seq ?_
  refine x_cond hst rfl (fun hc2 => ?_) (fun hc2 => ?_)
  · try simp only [n1, n2, n3, n4, n5, n6, n7, n8, n9, na, nb] at hc2
    refine wp_skip ?_
    refine then_n ?_
    refine wp_seq ?_
    refine wp_block ?_
    refine wp_seq ?_
    obtain ⟨g, o, cs, t, rfl, ht, hR, hel⟩ := hst.fact.1.at_ i.toNat (by omega)
    obtain ⟨g', o', ds, u, rfl, hu, hR', hel'⟩ := hst.fact.2.at_ i.toNat (by omega)
    have hcl : cs.length = 4 := kT.len hR
    have hcl' : ds.length = 4 := kT.len hR'
    have hst := (((hst.addFact (kT.mono _ _) hR).addFact (kT.mono _ _) hR').addFact (Eat.mono _ _ _) hel).addFact (Eat.mono _ _ _) hel'
    refine wp_region_lit ?_
    refine l_op rfl (r_move hst rfl rfl ?_)
    clear hst; intro a hst
    refine l_op rfl (r_indexAddr hst rfl rfl Tu63 Tsz70 (hi0) (by omega) rfl ?_)
    clear hst; intro a hst
    refine l_op rfl (r_eatw hst rfl Ta70 (hst.fact.2.1) hcl rfl ?_)
    clear hst; intro a hst
    refine l_op rfl (r_alloc hst Tz70 rfl ?_)
    clear hst; intro a w g1 hst
    refine l_op rfl (r_assign hst rfl rfl ?_)
    clear hst; intro a hst
    refine l_op rfl (r_store hst rfl rfl rfl (by rw [hcl]; exact Tsz70) (oneT hR) (.head (spl_whole hcl.symm)) ?_)
    clear hst; intro w hst
    refine wpList_nil ?_
    refine then_n ?_
    refine wp_seq ?_
    refine wp_region_lit ?_
    refine l_op rfl (r_move hst rfl rfl ?_)
    clear hst; intro a hst
    refine l_op rfl (r_move hst rfl rfl ?_)
    clear hst; intro a hst
    refine l_op rfl (r_indexAddr hst rfl rfl Tu63 Tsz70 (hi0) (by omega) rfl ?_)
    clear hst; intro a hst
    refine l_op rfl (r_eatw hst rfl Ta70 (hst.fact.1) hcl' rfl ?_)
    clear hst; intro a hst
    refine l_op rfl (r_alloc hst Tz70 rfl ?_)
    clear hst; intro a w g2 hst
    refine l_op rfl (r_store hst rfl rfl rfl (by rw [hcl']; exact Tsz70) (oneT hR') (.head (spl_whole hcl'.symm)) ?_)
    clear hst; intro w hst
    refine wpList_nil ?_
    refine then_n ?_
    refine wp_seq ?_
    refine wp_region_lit ?_
    refine l_op rfl (r_move hst rfl rfl ?_)
    clear hst; intro a hst
    refine l_op rfl (r_loadw hst rfl Ta70 (.tail _ (.head _)) hcl rfl ?_)
    clear hst; intro a hst
    refine l_op rfl (r_loadw hst rfl Ta70 (.head _) hcl' rfl ?_)
    clear hst; intro a hst
    refine l_op rfl (r_callv (xs := [(Operand.tmp 27), (Operand.tmp 28)]) hst rfl rfl hen (heq t u (List.mem_of_getElem? ht) (List.mem_of_getElem? hu) _ _ _ _ (hst.fact.2.2.2.1) (hst.fact.2.2.1)) rfl ?_)
    clear hst; rintro a _ w U ⟨be, rfl, hbe⟩ hst
    refine l_op rfl (r_not hst rfl rfl ?_)
    clear hst; intro a hst
    refine wpList_nil ?_
    refine then_n ?_
    refine x_cond hst rfl (fun hc3 => ?_) (fun hc3 => ?_)
    · try simp only [n1, n2, n3, n4, n5, n6, n7, n8, n9, na, nb] at hc3
      refine wp_seq ?_
      refine wp_region_lit ?_
      refine l_op rfl (r_assign hst rfl rfl ?_)
      clear hst; intro a hst
      refine wpList_nil ?_
      refine then_n ?_
      refine wp_ret ?_
      refine inb_r ?_
      refine then_r ?_
      refine then_r ?_
      refine inb_r ?_
      refine then_r ?_
      refine x_ret (rs := [.tmp 6]) hst rfl (.tmp rfl (.nil)) ?_
      exact ⟨_, rfl, ⟨fun h => absurd h (by decide), fun h => absurd h (eq_ne ht hu (by simp_all))⟩⟩
    try simp only [n1, n2, n3, n4, n5, n6, n7, n8, n9, na, nb] at hc3
    refine wp_skip ?_
    refine inb_n ?_
    refine then_n ?_
    refine wp_region_lit ?_
    refine l_op rfl (r_bin hst rfl rfl rfl rfl rfl ?_)
    clear hst; intro a hst
    rw [wrap_in _ (by omega) (by omega)] at hst
    refine l_op rfl (r_move hst rfl rfl ?_)
    clear hst; intro a hst
    refine wpList_nil ?_
    have hst := hst.setFact (Mono.and (Sl.mono _ _ _) (Sl.mono _ _ _)) (fun h => h.2.2.2.2)
    have hst := ((hst.keep (ds := [1, 2, 15, 16, 17]) (.cons rfl (.cons rfl (.cons rfl (.cons rfl (.cons rfl (.nil))))))).drop (.cons _ (.cons _ (.slnil))))
    exact then_k ⟨_, by omega, _, _, hst, by omega, by omega, eq_next htk hi0 ht hu (by simp_all), rfl⟩
  try simp only [n1, n2, n3, n4, n5, n6, n7, n8, n9, na, nb] at hc2
  refine wp_exit ?_
  refine then_x ?_
  refine then_x ?_
  refine inb_hit ?_
  refine then_n ?_
  refine wp_seq ?_
  refine wp_region_lit ?_
  refine l_op rfl (r_assign hst rfl rfl ?_)
  clear hst; intro a hst
  refine wpList_nil ?_
  refine then_n ?_
  refine wp_ret ?_
  refine x_ret (rs := [.tmp 6]) hst rfl (.tmp rfl (.nil)) ?_
  exact ⟨_, rfl, ⟨fun _ => eq_all htk hl1.1 (hl2.1.trans (by omega)) (by omega), fun _ => rfl⟩⟩

def InveqfE (w0 : World) (U0 : Mk) (A : Option Addr) (l c : Nat) (ts : List ExT) (A' : Option Addr) (l' c' : Nat) (us : List ExT) (f : Nat) (mz : Nat) (a : Act) (w : World) : Prop :=
  ∃ (U : Mk) (i : Int), Sta w0 U0 32 [(1, .slice A' l' c'), (2, .func (.func f) #[] #[]), (15, .slice A l c), (16, .int .i64 (l : Int)), (17, .int .i64 i)] [] [] (fun w U => Sl kE (.slice A l c) ts w U ∧ Sl kE (.slice A' l' c') us w U) a w U ∧ 0 ≤ i ∧ i ≤ l ∧ ts.take i.toNat = us.take i.toNat ∧ mz = ((l : Int) - i).toNat

theorem eqfE_c {w : World} {U : Mk} {A : Option Addr} {l c : Nat} {A' : Option Addr} {l' c' : Nat} (ts us : List ExT) (f : Nat) (hen : Enters Tryz.prog f) (hA : Sl kE (.slice A l c) ts w U) (hB : Sl kE (.slice A' l' c') us w U) (heq : ∀ t u, t ∈ ts → u ∈ us → EqF Tryz.prog f kE [] t u) :
    CallsS Tryz.prog 44 [.slice A l c, .slice A' l' c', .func (.func f) #[] #[]] w U (fun v _ _ => ∃ b : Bool, v = .bool b ∧ (b = true ↔ ts = us)) := by
  refine x_enter (F := fun w U => Sl kE (.slice A l c) ts w U ∧ Sl kE (.slice A' l' c') us w U) (n := 32) Tryz.func44 rfl rfl (by simp) (.cons (d := 0) rfl (.cons (d := 1) rfl (.cons (d := 2) rfl (.nil)))) (Mono.and (Sl.mono _ _ _) (Sl.mono _ _ _)) (⟨hA, hB⟩) ?_
  intro a hst
  refine wp_seq ?_
  refine wp_region_lit ?_
  refine l_op rfl (r_assign hst rfl rfl ?_)
  clear hst; intro a hst
  refine wpList_nil ?_
  refine then_n ?_
  refine wp_seq ?_
  refine wp_seq ?_
  have hl1 := hst.fact.1.len
  have hl2 := hst.fact.2.len
  refine wp_region_lit ?_
  refine l_op rfl (r_move hst rfl rfl ?_)
  clear hst; intro a hst
  refine l_op rfl (r_lensl hst rfl Tu56 rfl ?_)
  clear hst; intro a hst
  refine l_op rfl (r_move hst rfl rfl ?_)
  clear hst; intro a hst
  refine l_op rfl (r_lensl hst rfl Tu56 rfl ?_)
  clear hst; intro a hst
  refine l_op rfl (r_bin hst rfl rfl rfl rfl rfl ?_)
  clear hst; intro a hst
  refine wpList_nil ?_
  refine then_n ?_
  refine x_cond hst rfl (fun hc1 => ?_) (fun hc1 => ?_)
  · try simp only [n1, n2, n3, n4, n5, n6, n7, n8, n9, na, nb] at hc1
    refine wp_seq ?_
    refine wp_region_lit ?_
    refine l_op rfl (r_assign hst rfl rfl ?_)
    clear hst; intro a hst
    refine wpList_nil ?_
    refine then_n ?_
    refine wp_ret ?_
    refine then_r ?_
    refine x_ret (rs := [.tmp 6]) hst rfl (.tmp rfl (.nil)) ?_
    exact ⟨_, rfl, ⟨fun h => absurd h (by decide), fun h => absurd h (eq_len hl1.1 hl2.1 (by omega))⟩⟩
  try simp only [n1, n2, n3, n4, n5, n6, n7, n8, n9, na, nb] at hc1
  refine wp_skip ?_
  refine then_n ?_
  refine wp_seq ?_
  refine wp_seq ?_
  refine wp_region_lit ?_
  refine l_op rfl (r_move hst rfl rfl ?_)
  clear hst; intro a hst
  refine l_op rfl (r_lensl hst rfl Tu56 rfl ?_)
  clear hst; intro a hst
  refine l_op rfl (r_move hst rfl rfl ?_)
  clear hst; intro a hst
  refine wpList_nil ?_
  refine then_n ?_
  refine wp_block ?_
  have hst := ((hst.keep (ds := [1, 2, 15, 16, 17]) (.cons rfl (.cons rfl (.cons rfl (.cons rfl (.cons rfl (.nil))))))).drop (.slnil))
  refine wp_loop_ghost (InveqfE _ _ A l c ts A' l' c' us f) (l) ⟨_, 0, hst, by omega, by omega, rfl, by omega⟩ ?_
  clear hst
  rintro mz a w ⟨U, i, hst, hi0, hi1, htk, rfl⟩
  refine wp_seq ?_
  refine wp_region_lit ?_
  refine l_op rfl (r_bin hst rfl rfl rfl rfl rfl ?_)
  clear hst; intro a hst
  refine wpList_nil ?_
  refine then_n ?_
  refine wp_seq ?_
  refine x_cond hst rfl (fun hc2 => ?_) (fun hc2 => ?_)
  · try simp only [n1, n2, n3, n4, n5, n6, n7, n8, n9, na, nb] at hc2
    refine wp_skip ?_
    refine then_n ?_
    refine wp_seq ?_
    refine wp_block ?_
    refine wp_seq ?_
    obtain ⟨g, o, cs, t, rfl, ht, hR, hel⟩ := hst.fact.1.at_ i.toNat (by omega)
    obtain ⟨g', o', ds, u, rfl, hu, hR', hel'⟩ := hst.fact.2.at_ i.toNat (by omega)
    have hcl : cs.length = 6 := kE.len hR
    have hcl' : ds.length = 6 := kE.len hR'
    have hst := (((hst.addFact (kE.mono _ _) hR).addFact (kE.mono _ _) hR').addFact (Eat.mono _ _ _) hel).addFact (Eat.mono _ _ _) hel'
    refine wp_region_lit ?_
    refine l_op rfl (r_move hst rfl rfl ?_)
    clear hst; intro a hst
    refine l_op rfl (r_indexAddr hst rfl rfl Tu56 Tsz58 (hi0) (by omega) rfl ?_)
    clear hst; intro a hst
    refine l_op rfl (r_eatw hst rfl Ta58 (hst.fact.2.1) hcl rfl ?_)
    clear hst; intro a hst
    refine l_op rfl (r_alloc hst Tz58 rfl ?_)
    clear hst; intro a w g1 hst
    refine l_op rfl (r_assign hst rfl rfl ?_)
    clear hst; intro a hst
    refine l_op rfl (r_store hst rfl rfl rfl (by rw [hcl]; exact Tsz58) (oneE hR) (.head (spl_whole hcl.symm)) ?_)
    clear hst; intro w hst
    refine wpList_nil ?_
    refine then_n ?_
    refine wp_seq ?_
    refine wp_region_lit ?_
    refine l_op rfl (r_move hst rfl rfl ?_)
    clear hst; intro a hst
    refine l_op rfl (r_move hst rfl rfl ?_)
    clear hst; intro a hst
    refine l_op rfl (r_indexAddr hst rfl rfl Tu56 Tsz58 (hi0) (by omega) rfl ?_)
    clear hst; intro a hst
    refine l_op rfl (r_eatw hst rfl Ta58 (hst.fact.1) hcl' rfl ?_)
    clear hst; intro a hst
    refine l_op rfl (r_alloc hst Tz58 rfl ?_)
    clear hst; intro a w g2 hst
    refine l_op rfl (r_store hst rfl rfl rfl (by rw [hcl']; exact Tsz58) (oneE hR') (.head (spl_whole hcl'.symm)) ?_)
    clear hst; intro w hst
    refine wpList_nil ?_
    refine then_n ?_
    refine wp_seq ?_
    refine wp_region_lit ?_
    refine l_op rfl (r_move hst rfl rfl ?_)
    clear hst; intro a hst
    refine l_op rfl (r_loadw hst rfl Ta58 (.tail _ (.head _)) hcl rfl ?_)
    clear hst; intro a hst
    refine l_op rfl (r_loadw hst rfl Ta58 (.head _) hcl' rfl ?_)
    clear hst; intro a hst
    refine l_op rfl (r_callv (xs := [(Operand.tmp 27), (Operand.tmp 28)]) hst rfl rfl hen (heq t u (List.mem_of_getElem? ht) (List.mem_of_getElem? hu) _ _ _ _ (hst.fact.2.2.2.1) (hst.fact.2.2.1)) rfl ?_)
    clear hst; rintro a _ w U ⟨be, rfl, hbe⟩ hst
    refine l_op rfl (r_not hst rfl rfl ?_)
    clear hst; intro a hst
    refine wpList_nil ?_
    refine then_n ?_
    refine x_cond hst rfl (fun hc3 => ?_) (fun hc3 => ?_)
    · try simp only [n1, n2, n3, n4, n5, n6, n7, n8, n9, na, nb] at hc3
      refine wp_seq ?_
      refine wp_region_lit ?_
      refine l_op rfl (r_assign hst rfl rfl ?_)
      clear hst; intro a hst
      refine wpList_nil ?_
      refine then_n ?_
      refine wp_ret ?_
      refine inb_r ?_
      refine then_r ?_
      refine then_r ?_
      refine inb_r ?_
      refine then_r ?_
      refine x_ret (rs := [.tmp 6]) hst rfl (.tmp rfl (.nil)) ?_
      exact ⟨_, rfl, ⟨fun h => absurd h (by decide), fun h => absurd h (eq_ne ht hu (by simp_all))⟩⟩
    try simp only [n1, n2, n3, n4, n5, n6, n7, n8, n9, na, nb] at hc3
    refine wp_skip ?_
    refine inb_n ?_
    refine then_n ?_
    refine wp_region_lit ?_
    refine l_op rfl (r_bin hst rfl rfl rfl rfl rfl ?_)
    clear hst; intro a hst
    rw [wrap_in _ (by omega) (by omega)] at hst
    refine l_op rfl (r_move hst rfl rfl ?_)
    clear hst; intro a hst
    refine wpList_nil ?_
    have hst := hst.setFact (Mono.and (Sl.mono _ _ _) (Sl.mono _ _ _)) (fun h => h.2.2.2.2)
    have hst := ((hst.keep (ds := [1, 2, 15, 16, 17]) (.cons rfl (.cons rfl (.cons rfl (.cons rfl (.cons rfl (.nil))))))).drop (.cons _ (.cons _ (.slnil))))
    exact then_k ⟨_, by omega, _, _, hst, by omega, by omega, eq_next htk hi0 ht hu (by simp_all), rfl⟩
  try simp only [n1, n2, n3, n4, n5, n6, n7, n8, n9, na, nb] at hc2
  refine wp_exit ?_
  refine then_x ?_
  refine then_x ?_
  refine inb_hit ?_
  refine then_n ?_
  refine wp_seq ?_
  refine wp_region_lit ?_
  refine l_op rfl (r_assign hst rfl rfl ?_)
  clear hst; intro a hst
  refine wpList_nil ?_
  refine then_n ?_
  refine wp_ret ?_
  refine x_ret (rs := [.tmp 6]) hst rfl (.tmp rfl (.nil)) ?_
  exact ⟨_, rfl, ⟨fun _ => eq_all htk hl1.1 (hl2.1.trans (by omega)) (by omega), fun _ => rfl⟩⟩

def InveqfC (w0 : World) (U0 : Mk) (A : Option Addr) (l c : Nat) (ts : List CoT) (A' : Option Addr) (l' c' : Nat) (us : List CoT) (f : Nat) (mz : Nat) (a : Act) (w : World) : Prop :=
  ∃ (U : Mk) (i : Int), Sta w0 U0 32 [(1, .slice A' l' c'), (2, .func (.func f) #[] #[]), (15, .slice A l c), (16, .int .i64 (l : Int)), (17, .int .i64 i)] [] [] (fun w U => Sl kC (.slice A l c) ts w U ∧ Sl kC (.slice A' l' c') us w U) a w U ∧ 0 ≤ i ∧ i ≤ l ∧ ts.take i.toNat = us.take i.toNat ∧ mz = ((l : Int) - i).toNat

theorem eqfC_c {w : World} {U : Mk} {A : Option Addr} {l c : Nat} {A' : Option Addr} {l' c' : Nat} (ts us : List CoT) (f : Nat) (hen : Enters Tryz.prog f) (hA : Sl kC (.slice A l c) ts w U) (hB : Sl kC (.slice A' l' c') us w U) (heq : ∀ t u, t ∈ ts → u ∈ us → EqF Tryz.prog f kC [] t u) :
    CallsS Tryz.prog 19 [.slice A l c, .slice A' l' c', .func (.func f) #[] #[]] w U (fun v _ _ => ∃ b : Bool, v = .bool b ∧ (b = true ↔ ts = us)) := by
  refine x_enter (F := fun w U => Sl kC (.slice A l c) ts w U ∧ Sl kC (.slice A' l' c') us w U) (n := 32) Tryz.func19 rfl rfl (by simp) (.cons (d := 0) rfl (.cons (d := 1) rfl (.cons (d := 2) rfl (.nil)))) (Mono.and (Sl.mono _ _ _) (Sl.mono _ _ _)) (⟨hA, hB⟩) ?_
  intro a hst
  refine wp_seq ?_
  refine wp_region_lit ?_
  refine l_op rfl (r_assign hst rfl rfl ?_)
  clear hst; intro a hst
  refine wpList_nil ?_
  refine then_n ?_
  refine wp_seq ?_
  refine wp_seq ?_
  have hl1 := hst.fact.1.len
  have hl2 := hst.fact.2.len
  refine wp_region_lit ?_
  refine l_op rfl (r_move hst rfl rfl ?_)
  clear hst; intro a hst
  refine l_op rfl (r_lensl hst rfl Tu40 rfl ?_)
  clear hst; intro a hst
  refine l_op rfl (r_move hst rfl rfl ?_)
  clear hst; intro a hst
  refine l_op rfl (r_lensl hst rfl Tu40 rfl ?_)
  clear hst; intro a hst
  refine l_op rfl (r_bin hst rfl rfl rfl rfl rfl ?_)
  clear hst; intro a hst
  refine wpList_nil ?_
  refine then_n ?_
  refine x_cond hst rfl (fun hc1 => ?_) (fun hc1 => ?_)
  · try simp only [n1, n2, n3, n4, n5, n6, n7, n8, n9, na, nb] at hc1
    refine wp_seq ?_
    refine wp_region_lit ?_
    refine l_op rfl (r_assign hst rfl rfl ?_)
    clear hst; intro a hst
    refine wpList_nil ?_
    refine then_n ?_
    refine wp_ret ?_
    refine then_r ?_
    refine x_ret (rs := [.tmp 6]) hst rfl (.tmp rfl (.nil)) ?_
    exact ⟨_, rfl, ⟨fun h => absurd h (by decide), fun h => absurd h (eq_len hl1.1 hl2.1 (by omega))⟩⟩
  try simp only [n1, n2, n3, n4, n5, n6, n7, n8, n9, na, nb] at hc1
  refine wp_skip ?_
  refine then_n ?_
  refine wp_seq ?_
  refine wp_seq ?_
  refine wp_region_lit ?_
  refine l_op rfl (r_move hst rfl rfl ?_)
  clear hst; intro a hst
  refine l_op rfl (r_lensl hst rfl Tu40 rfl ?_)
  clear hst; intro a hst
  refine l_op rfl (r_move hst rfl rfl ?_)
  clear hst; intro a hst
  refine wpList_nil ?_
  refine then_n ?_
  refine wp_block ?_
  have hst := ((hst.keep (ds := [1, 2, 15, 16, 17]) (.cons rfl (.cons rfl (.cons rfl (.cons rfl (.cons rfl (.nil))))))).drop (.slnil))
  refine wp_loop_ghost (InveqfC _ _ A l c ts A' l' c' us f) (l) ⟨_, 0, hst, by omega, by omega, rfl, by omega⟩ ?_
  clear hst
  rintro mz a w ⟨U, i, hst, hi0, hi1, htk, rfl⟩
  refine wp_seq ?_
  refine wp_region_lit ?_
  refine l_op rfl (r_bin hst rfl rfl rfl rfl rfl ?_)
  clear hst; intro a hst
  refine wpList_nil ?_
  refine then_n ?_
  refine wp_seq ?_
  refine x_cond hst rfl (fun hc2 => ?_) (fun hc2 => ?_)
  · try simp only [n1, n2, n3, n4, n5, n6, n7, n8, n9, na, nb] at hc2
    refine wp_skip ?_
    refine then_n ?_
    refine wp_seq ?_
    refine wp_block ?_
    refine wp_seq ?_
    obtain ⟨g, o, cs, t, rfl, ht, hR, hel⟩ := hst.fact.1.at_ i.toNat (by omega)
    obtain ⟨g', o', ds, u, rfl, hu, hR', hel'⟩ := hst.fact.2.at_ i.toNat (by omega)
    have hcl : cs.length = 4 := kC.len hR
    have hcl' : ds.length = 4 := kC.len hR'
    have hst := (((hst.addFact (kC.mono _ _) hR).addFact (kC.mono _ _) hR').addFact (Eat.mono _ _ _) hel).addFact (Eat.mono _ _ _) hel'
    refine wp_region_lit ?_
    refine l_op rfl (r_move hst rfl rfl ?_)
    clear hst; intro a hst
    refine l_op rfl (r_indexAddr hst rfl rfl Tu40 Tsz65 (hi0) (by omega) rfl ?_)
    clear hst; intro a hst
    refine l_op rfl (r_eatw hst rfl Ta65 (hst.fact.2.1) hcl rfl ?_)
    clear hst; intro a hst
    refine l_op rfl (r_alloc hst Tz65 rfl ?_)
    clear hst; intro a w g1 hst
    refine l_op rfl (r_assign hst rfl rfl ?_)
    clear hst; intro a hst
    refine l_op rfl (r_store hst rfl rfl rfl (by rw [hcl]; exact Tsz65) (oneC hR) (.head (spl_whole hcl.symm)) ?_)
    clear hst; intro w hst
    refine wpList_nil ?_
    refine then_n ?_
    refine wp_seq ?_
    refine wp_region_lit ?_
    refine l_op rfl (r_move hst rfl rfl ?_)
    clear hst; intro a hst
    refine l_op rfl (r_move hst rfl rfl ?_)
    clear hst; intro a hst
    refine l_op rfl (r_indexAddr hst rfl rfl Tu40 Tsz65 (hi0) (by omega) rfl ?_)
    clear hst; intro a hst
    refine l_op rfl (r_eatw hst rfl Ta65 (hst.fact.1) hcl' rfl ?_)
    clear hst; intro a hst
    refine l_op rfl (r_alloc hst Tz65 rfl ?_)
    clear hst; intro a w g2 hst
    refine l_op rfl (r_store hst rfl rfl rfl (by rw [hcl']; exact Tsz65) (oneC hR') (.head (spl_whole hcl'.symm)) ?_)
    clear hst; intro w hst
    refine wpList_nil ?_
    refine then_n ?_
    refine wp_seq ?_
    refine wp_region_lit ?_
    refine l_op rfl (r_move hst rfl rfl ?_)
    clear hst; intro a hst
    refine l_op rfl (r_loadw hst rfl Ta65 (.tail _ (.head _)) hcl rfl ?_)
    clear hst; intro a hst
    refine l_op rfl (r_loadw hst rfl Ta65 (.head _) hcl' rfl ?_)
    clear hst; intro a hst
    refine l_op rfl (r_callv (xs := [(Operand.tmp 27), (Operand.tmp 28)]) hst rfl rfl hen (heq t u (List.mem_of_getElem? ht) (List.mem_of_getElem? hu) _ _ _ _ (hst.fact.2.2.2.1) (hst.fact.2.2.1)) rfl ?_)
    clear hst; rintro a _ w U ⟨be, rfl, hbe⟩ hst
    refine l_op rfl (r_not hst rfl rfl ?_)
    clear hst; intro a hst
    refine wpList_nil ?_
    refine then_n ?_
    refine x_cond hst rfl (fun hc3 => ?_) (fun hc3 => ?_)
    · try simp only [n1, n2, n3, n4, n5, n6, n7, n8, n9, na, nb] at hc3
      refine wp_seq ?_
      refine wp_region_lit ?_
      refine l_op rfl (r_assign hst rfl rfl ?_)
      clear hst; intro a hst
      refine wpList_nil ?_
      refine then_n ?_
      refine wp_ret ?_
      refine inb_r ?_
      refine then_r ?_
      refine then_r ?_
      refine inb_r ?_
      refine then_r ?_
      refine x_ret (rs := [.tmp 6]) hst rfl (.tmp rfl (.nil)) ?_
      exact ⟨_, rfl, ⟨fun h => absurd h (by decide), fun h => absurd h (eq_ne ht hu (by simp_all))⟩⟩
    try simp only [n1, n2, n3, n4, n5, n6, n7, n8, n9, na, nb] at hc3
    refine wp_skip ?_
    refine inb_n ?_
    refine then_n ?_
    refine wp_region_lit ?_
    refine l_op rfl (r_bin hst rfl rfl rfl rfl rfl ?_)
    clear hst; intro a hst
    rw [wrap_in _ (by omega) (by omega)] at hst
    refine l_op rfl (r_move hst rfl rfl ?_)
    clear hst; intro a hst
    refine wpList_nil ?_
    have hst := hst.setFact (Mono.and (Sl.mono _ _ _) (Sl.mono _ _ _)) (fun h => h.2.2.2.2)
    have hst := ((hst.keep (ds := [1, 2, 15, 16, 17]) (.cons rfl (.cons rfl (.cons rfl (.cons rfl (.cons rfl (.nil))))))).drop (.cons _ (.cons _ (.slnil))))
    exact then_k ⟨_, by omega, _, _, hst, by omega, by omega, eq_next htk hi0 ht hu (by simp_all), rfl⟩
  try simp only [n1, n2, n3, n4, n5, n6, n7, n8, n9, na, nb] at hc2
  refine wp_exit ?_
  refine then_x ?_
  refine then_x ?_
  refine inb_hit ?_
  refine then_n ?_
  refine wp_seq ?_
  refine wp_region_lit ?_
  refine l_op rfl (r_assign hst rfl rfl ?_)
  clear hst; intro a hst
  refine wpList_nil ?_
  refine then_n ?_
  refine wp_ret ?_
  refine x_ret (rs := [.tmp 6]) hst rfl (.tmp rfl (.nil)) ?_
  exact ⟨_, rfl, ⟨fun _ => eq_all htk hl1.1 (hl2.1.trans (by omega)) (by omega), fun _ => rfl⟩⟩

def InveqfD (w0 : World) (U0 : Mk) (N : Nat) (A : Option Addr) (l c : Nat) (ts : List DaT) (A' : Option Addr) (l' c' : Nat) (us : List DaT) (f : Nat) (mz : Nat) (a : Act) (w : World) : Prop :=
  ∃ (U : Mk) (i : Int), Sta w0 U0 32 [(1, .slice A' l' c'), (2, .func (.func f) #[] #[]), (15, .slice A l c), (16, .int .i64 (l : Int)), (17, .int .i64 i)] [] [] (fun w U => Sl (kDn N) (.slice A l c) ts w U ∧ Sl (kDn N) (.slice A' l' c') us w U) a w U ∧ 0 ≤ i ∧ i ≤ l ∧ ts.take i.toNat = us.take i.toNat ∧ mz = ((l : Int) - i).toNat

theorem eqfD_c {w : World} {U : Mk} (N : Nat) {A : Option Addr} {l c : Nat} {A' : Option Addr} {l' c' : Nat} (ts us : List DaT) (f : Nat) (hen : Enters Tryz.prog f) (hA : Sl (kDn N) (.slice A l c) ts w U) (hB : Sl (kDn N) (.slice A' l' c') us w U) (heq : ∀ t u, t ∈ ts → u ∈ us → EqF Tryz.prog f (kDn N) [] t u) :
    CallsS Tryz.prog 17 [.slice A l c, .slice A' l' c', .func (.func f) #[] #[]] w U (fun v _ _ => ∃ b : Bool, v = .bool b ∧ (b = true ↔ ts = us)) := by
  refine x_enter (F := fun w U => Sl (kDn N) (.slice A l c) ts w U ∧ Sl (kDn N) (.slice A' l' c') us w U) (n := 32) Tryz.func17 rfl rfl (by simp) (.cons (d := 0) rfl (.cons (d := 1) rfl (.cons (d := 2) rfl (.nil)))) (Mono.and (Sl.mono _ _ _) (Sl.mono _ _ _)) (⟨hA, hB⟩) ?_
  intro a hst
  refine wp_seq ?_
  refine wp_region_lit ?_
  refine l_op rfl (r_assign hst rfl rfl ?_)
  clear hst; intro a hst
  refine wpList_nil ?_
  refine then_n ?_
  refine wp_seq ?_
  refine wp_seq ?_
  have hl1 := hst.fact.1.len
  have hl2 := hst.fact.2.len
  refine wp_region_lit ?_
  refine l_op rfl (r_move hst rfl rfl ?_)
  clear hst; intro a hst
  refine l_op rfl (r_lensl hst rfl Tu23 rfl ?_)
  clear hst; intro a hst
  refine l_op rfl (r_move hst rfl rfl ?_)
  clear hst; intro a hst
  refine l_op rfl (r_lensl hst rfl Tu23 rfl ?_)
  clear hst; intro a hst
  refine l_op rfl (r_bin hst rfl rfl rfl rfl rfl ?_)
  clear hst; intro a hst
  refine wpList_nil ?_
  refine then_n ?_
  refine x_cond hst rfl (fun hc1 => ?_) (fun hc1 => ?_)
  · try simp only [n1, n2, n3, n4, n5, n6, n7, n8, n9, na, nb] at hc1
    refine wp_seq ?_
    refine wp_region_lit ?_
    refine l_op rfl (r_assign hst rfl rfl ?_)
    clear hst; intro a hst
    refine wpList_nil ?_
    refine then_n ?_
    refine wp_ret ?_
    refine then_r ?_
    refine x_ret (rs := [.tmp 6]) hst rfl (.tmp rfl (.nil)) ?_
    exact ⟨_, rfl, ⟨fun h => absurd h (by decide), fun h => absurd h (eq_len hl1.1 hl2.1 (by omega))⟩⟩
  try simp only [n1, n2, n3, n4, n5, n6, n7, n8, n9, na, nb] at hc1
  refine wp_skip ?_
  refine then_n ?_
  refine wp_seq ?_
  refine wp_seq ?_
  refine wp_region_lit ?_
  refine l_op rfl (r_move hst rfl rfl ?_)
  clear hst; intro a hst
  refine l_op rfl (r_lensl hst rfl Tu23 rfl ?_)
  clear hst; intro a hst
  refine l_op rfl (r_move hst rfl rfl ?_)
  clear hst; intro a hst
  refine wpList_nil ?_
  refine then_n ?_
  refine wp_block ?_
  have hst := ((hst.keep (ds := [1, 2, 15, 16, 17]) (.cons rfl (.cons rfl (.cons rfl (.cons rfl (.cons rfl (.nil))))))).drop (.slnil))
  refine wp_loop_ghost (InveqfD _ _ N A l c ts A' l' c' us f) (l) ⟨_, 0, hst, by omega, by omega, rfl, by omega⟩ ?_
  clear hst
  rintro mz a w ⟨U, i, hst, hi0, hi1, htk, rfl⟩
  refine wp_seq ?_
  refine wp_region_lit ?_
  refine l_op rfl (r_bin hst rfl rfl rfl rfl rfl ?_)
  clear hst; intro a hst
  refine wpList_nil ?_
  refine then_n ?_
  refine wp_seq ?_
  refine x_cond hst rfl (fun hc2 => ?_) (fun hc2 => ?_)
  · try simp only [n1, n2, n3, n4, n5, n6, n7, n8, n9, na, nb] at hc2
    refine wp_skip ?_
    refine then_n ?_
    refine wp_seq ?_
    refine wp_block ?_
    refine wp_seq ?_
    obtain ⟨g, o, cs, t, rfl, ht, hR, hel⟩ := hst.fact.1.at_ i.toNat (by omega)
    obtain ⟨g', o', ds, u, rfl, hu, hR', hel'⟩ := hst.fact.2.at_ i.toNat (by omega)
    have hcl : cs.length = 5 := (kDn N).len hR
    have hcl' : ds.length = 5 := (kDn N).len hR'
    have hst := (((hst.addFact ((kDn N).mono _ _) hR).addFact ((kDn N).mono _ _) hR').addFact (Eat.mono _ _ _) hel).addFact (Eat.mono _ _ _) hel'
    refine wp_region_lit ?_
    refine l_op rfl (r_move hst rfl rfl ?_)
    clear hst; intro a hst
    refine l_op rfl (r_indexAddr hst rfl rfl Tu23 Tsz42 (hi0) (by omega) rfl ?_)
    clear hst; intro a hst
    refine l_op rfl (r_eatw hst rfl Ta42 (hst.fact.2.1) hcl rfl ?_)
    clear hst; intro a hst
    refine l_op rfl (r_alloc hst Tz42 rfl ?_)
    clear hst; intro a w g1 hst
    refine l_op rfl (r_assign hst rfl rfl ?_)
    clear hst; intro a hst
    refine l_op rfl (r_store hst rfl rfl rfl (by rw [hcl]; exact Tsz42) (oneD hR) (.head (spl_whole hcl.symm)) ?_)
    clear hst; intro w hst
    refine wpList_nil ?_
    refine then_n ?_
    refine wp_seq ?_
    refine wp_region_lit ?_
    refine l_op rfl (r_move hst rfl rfl ?_)
    clear hst; intro a hst
    refine l_op rfl (r_move hst rfl rfl ?_)
    clear hst; intro a hst
    refine l_op rfl (r_indexAddr hst rfl rfl Tu23 Tsz42 (hi0) (by omega) rfl ?_)
    clear hst; intro a hst
    refine l_op rfl (r_eatw hst rfl Ta42 (hst.fact.1) hcl' rfl ?_)
    clear hst; intro a hst
    refine l_op rfl (r_alloc hst Tz42 rfl ?_)
    clear hst; intro a w g2 hst
    refine l_op rfl (r_store hst rfl rfl rfl (by rw [hcl']; exact Tsz42) (oneD hR') (.head (spl_whole hcl'.symm)) ?_)
    clear hst; intro w hst
    refine wpList_nil ?_
    refine then_n ?_
    refine wp_seq ?_
    refine wp_region_lit ?_
    refine l_op rfl (r_move hst rfl rfl ?_)
    clear hst; intro a hst
    refine l_op rfl (r_loadw hst rfl Ta42 (.tail _ (.head _)) hcl rfl ?_)
    clear hst; intro a hst
    refine l_op rfl (r_loadw hst rfl Ta42 (.head _) hcl' rfl ?_)
    clear hst; intro a hst
    refine l_op rfl (r_callv (xs := [(Operand.tmp 27), (Operand.tmp 28)]) hst rfl rfl hen (heq t u (List.mem_of_getElem? ht) (List.mem_of_getElem? hu) _ _ _ _ (hst.fact.2.2.2.1) (hst.fact.2.2.1)) rfl ?_)
    clear hst; rintro a _ w U ⟨be, rfl, hbe⟩ hst
    refine l_op rfl (r_not hst rfl rfl ?_)
    clear hst; intro a hst
    refine wpList_nil ?_
    refine then_n ?_
    refine x_cond hst rfl (fun hc3 => ?_) (fun hc3 => ?_)
    · try simp only [n1, n2, n3, n4, n5, n6, n7, n8, n9, na, nb] at hc3
      refine wp_seq ?_
      refine wp_region_lit ?_
      refine l_op rfl (r_assign hst rfl rfl ?_)
      clear hst; intro a hst
      refine wpList_nil ?_
      refine then_n ?_
      refine wp_ret ?_
      refine inb_r ?_
      refine then_r ?_
      refine then_r ?_
      refine inb_r ?_
      refine then_r ?_
      refine x_ret (rs := [.tmp 6]) hst rfl (.tmp rfl (.nil)) ?_
      exact ⟨_, rfl, ⟨fun h => absurd h (by decide), fun h => absurd h (eq_ne ht hu (by simp_all))⟩⟩
    try simp only [n1, n2, n3, n4, n5, n6, n7, n8, n9, na, nb] at hc3
    refine wp_skip ?_
    refine inb_n ?_
    refine then_n ?_
    refine wp_region_lit ?_
    refine l_op rfl (r_bin hst rfl rfl rfl rfl rfl ?_)
    clear hst; intro a hst
    rw [wrap_in _ (by omega) (by omega)] at hst
    refine l_op rfl (r_move hst rfl rfl ?_)
    clear hst; intro a hst
    refine wpList_nil ?_
    have hst := hst.setFact (Mono.and (Sl.mono _ _ _) (Sl.mono _ _ _)) (fun h => h.2.2.2.2)
    have hst := ((hst.keep (ds := [1, 2, 15, 16, 17]) (.cons rfl (.cons rfl (.cons rfl (.cons rfl (.cons rfl (.nil))))))).drop (.cons _ (.cons _ (.slnil))))
    exact then_k ⟨_, by omega, _, _, hst, by omega, by omega, eq_next htk hi0 ht hu (by simp_all), rfl⟩
  try simp only [n1, n2, n3, n4, n5, n6, n7, n8, n9, na, nb] at hc2
  refine wp_exit ?_
  refine then_x ?_
  refine then_x ?_
  refine inb_hit ?_
  refine then_n ?_
  refine wp_seq ?_
  refine wp_region_lit ?_
  refine l_op rfl (r_assign hst rfl rfl ?_)
  clear hst; intro a hst
  refine wpList_nil ?_
  refine then_n ?_
  refine wp_ret ?_
  refine x_ret (rs := [.tmp 6]) hst rfl (.tmp rfl (.nil)) ?_
  exact ⟨_, rfl, ⟨fun _ => eq_all htk hl1.1 (hl2.1.trans (by omega)) (by omega), fun _ => rfl⟩⟩

def InveqfR (w0 : World) (U0 : Mk) (N : Nat) (A : Option Addr) (l c : Nat) (ts : List RuT) (A' : Option Addr) (l' c' : Nat) (us : List RuT) (f : Nat) (mz : Nat) (a : Act) (w : World) : Prop :=
  ∃ (U : Mk) (i : Int), Sta w0 U0 32 [(1, .slice A' l' c'), (2, .func (.func f) #[] #[]), (15, .slice A l c), (16, .int .i64 (l : Int)), (17, .int .i64 i)] [] [] (fun w U => Sl (kRn N) (.slice A l c) ts w U ∧ Sl (kRn N) (.slice A' l' c') us w U) a w U ∧ 0 ≤ i ∧ i ≤ l ∧ ts.take i.toNat = us.take i.toNat ∧ mz = ((l : Int) - i).toNat

theorem eqfR_c {w : World} {U : Mk} (N : Nat) {A : Option Addr} {l c : Nat} {A' : Option Addr} {l' c' : Nat} (ts us : List RuT) (f : Nat) (hen : Enters Tryz.prog f) (hA : Sl (kRn N) (.slice A l c) ts w U) (hB : Sl (kRn N) (.slice A' l' c') us w U) (heq : ∀ t u, t ∈ ts → u ∈ us → EqF Tryz.prog f (kRn N) [] t u) :
    CallsS Tryz.prog 24 [.slice A l c, .slice A' l' c', .func (.func f) #[] #[]] w U (fun v _ _ => ∃ b : Bool, v = .bool b ∧ (b = true ↔ ts = us)) := by
  refine x_enter (F := fun w U => Sl (kRn N) (.slice A l c) ts w U ∧ Sl (kRn N) (.slice A' l' c') us w U) (n := 32) Tryz.func24 rfl rfl (by simp) (.cons (d := 0) rfl (.cons (d := 1) rfl (.cons (d := 2) rfl (.nil)))) (Mono.and (Sl.mono _ _ _) (Sl.mono _ _ _)) (⟨hA, hB⟩) ?_
  intro a hst
  refine wp_seq ?_
  refine wp_region_lit ?_
  refine l_op rfl (r_assign hst rfl rfl ?_)
  clear hst; intro a hst
  refine wpList_nil ?_
  refine then_n ?_
  refine wp_seq ?_
  refine wp_seq ?_
  have hl1 := hst.fact.1.len
  have hl2 := hst.fact.2.len
  refine wp_region_lit ?_
  refine l_op rfl (r_move hst rfl rfl ?_)
  clear hst; intro a hst
  refine l_op rfl (r_lensl hst rfl Tu24 rfl ?_)
  clear hst; intro a hst
  refine l_op rfl (r_move hst rfl rfl ?_)
  clear hst; intro a hst
  refine l_op rfl (r_lensl hst rfl Tu24 rfl ?_)
  clear hst; intro a hst
  refine l_op rfl (r_bin hst rfl rfl rfl rfl rfl ?_)
  clear hst; intro a hst
  refine wpList_nil ?_
  refine then_n ?_
  refine x_cond hst rfl (fun hc1 => ?_) (fun hc1 => ?_)
  · try simp only [n1, n2, n3, n4, n5, n6, n7, n8, n9, na, nb] at hc1
    refine wp_seq ?_
    refine wp_region_lit ?_
    refine l_op rfl (r_assign hst rfl rfl ?_)
    clear hst; intro a hst
    refine wpList_nil ?_
    refine then_n ?_
    refine wp_ret ?_
    refine then_r ?_
    refine x_ret (rs := [.tmp 6]) hst rfl (.tmp rfl (.nil)) ?_
    exact ⟨_, rfl, ⟨fun h => absurd h (by decide), fun h => absurd h (eq_len hl1.1 hl2.1 (by omega))⟩⟩
  try simp only [n1, n2, n3, n4, n5, n6, n7, n8, n9, na, nb] at hc1
  refine wp_skip ?_
  refine then_n ?_
  refine wp_seq ?_
  refine wp_seq ?_
  refine wp_region_lit ?_
  refine l_op rfl (r_move hst rfl rfl ?_)
  clear hst; intro a hst
  refine l_op rfl (r_lensl hst rfl Tu24 rfl ?_)
  clear hst; intro a hst
  refine l_op rfl (r_move hst rfl rfl ?_)
  clear hst; intro a hst
  refine wpList_nil ?_
  refine then_n ?_
  refine wp_block ?_
  have hst := ((hst.keep (ds := [1, 2, 15, 16, 17]) (.cons rfl (.cons rfl (.cons rfl (.cons rfl (.cons rfl (.nil))))))).drop (.slnil))
  refine wp_loop_ghost (InveqfR _ _ N A l c ts A' l' c' us f) (l) ⟨_, 0, hst, by omega, by omega, rfl, by omega⟩ ?_
  clear hst
  rintro mz a w ⟨U, i, hst, hi0, hi1, htk, rfl⟩
  refine wp_seq ?_
  refine wp_region_lit ?_
  refine l_op rfl (r_bin hst rfl rfl rfl rfl rfl ?_)
  clear hst; intro a hst
  refine wpList_nil ?_
  refine then_n ?_
  refine wp_seq ?_
  refine x_cond hst rfl (fun hc2 => ?_) (fun hc2 => ?_)
  · try simp only [n1, n2, n3, n4, n5, n6, n7, n8, n9, na, nb] at hc2
    refine wp_skip ?_
    refine then_n ?_
    refine wp_seq ?_
    refine wp_block ?_
    refine wp_seq ?_
    obtain ⟨g, o, cs, t, rfl, ht, hR, hel⟩ := hst.fact.1.at_ i.toNat (by omega)
    obtain ⟨g', o', ds, u, rfl, hu, hR', hel'⟩ := hst.fact.2.at_ i.toNat (by omega)
    have hcl : cs.length = 11 := (kRn N).len hR
    have hcl' : ds.length = 11 := (kRn N).len hR'
    have hst := (((hst.addFact ((kRn N).mono _ _) hR).addFact ((kRn N).mono _ _) hR').addFact (Eat.mono _ _ _) hel).addFact (Eat.mono _ _ _) hel'
    refine wp_region_lit ?_
    refine l_op rfl (r_move hst rfl rfl ?_)
    clear hst; intro a hst
    refine l_op rfl (r_indexAddr hst rfl rfl Tu24 Tsz60 (hi0) (by omega) rfl ?_)
    clear hst; intro a hst
    refine l_op rfl (r_eatw hst rfl Ta60 (hst.fact.2.1) hcl rfl ?_)
    clear hst; intro a hst
    refine l_op rfl (r_alloc hst Tz60 rfl ?_)
    clear hst; intro a w g1 hst
    refine l_op rfl (r_assign hst rfl rfl ?_)
    clear hst; intro a hst
    refine l_op rfl (r_store hst rfl rfl rfl (by rw [hcl]; exact Tsz60) (oneR hR) (.head (spl_whole hcl.symm)) ?_)
    clear hst; intro w hst
    refine wpList_nil ?_
    refine then_n ?_
    refine wp_seq ?_
    refine wp_region_lit ?_
    refine l_op rfl (r_move hst rfl rfl ?_)
    clear hst; intro a hst
    refine l_op rfl (r_move hst rfl rfl ?_)
    clear hst; intro a hst
    refine l_op rfl (r_indexAddr hst rfl rfl Tu24 Tsz60 (hi0) (by omega) rfl ?_)
    clear hst; intro a hst
    refine l_op rfl (r_eatw hst rfl Ta60 (hst.fact.1) hcl' rfl ?_)
    clear hst; intro a hst
    refine l_op rfl (r_alloc hst Tz60 rfl ?_)
    clear hst; intro a w g2 hst
    refine l_op rfl (r_store hst rfl rfl rfl (by rw [hcl']; exact Tsz60) (oneR hR') (.head (spl_whole hcl'.symm)) ?_)
    clear hst; intro w hst
    refine wpList_nil ?_
    refine then_n ?_
    refine wp_seq ?_
    refine wp_region_lit ?_
    refine l_op rfl (r_move hst rfl rfl ?_)
    clear hst; intro a hst
    refine l_op rfl (r_loadw hst rfl Ta60 (.tail _ (.head _)) hcl rfl ?_)
    clear hst; intro a hst
    refine l_op rfl (r_loadw hst rfl Ta60 (.head _) hcl' rfl ?_)
    clear hst; intro a hst
    refine l_op rfl (r_callv (xs := [(Operand.tmp 27), (Operand.tmp 28)]) hst rfl rfl hen (heq t u (List.mem_of_getElem? ht) (List.mem_of_getElem? hu) _ _ _ _ (hst.fact.2.2.2.1) (hst.fact.2.2.1)) rfl ?_)
    clear hst; rintro a _ w U ⟨be, rfl, hbe⟩ hst
    refine l_op rfl (r_not hst rfl rfl ?_)
    clear hst; intro a hst
    refine wpList_nil ?_
    refine then_n ?_
    refine x_cond hst rfl (fun hc3 => ?_) (fun hc3 => ?_)
    · try simp only [n1, n2, n3, n4, n5, n6, n7, n8, n9, na, nb] at hc3
      refine wp_seq ?_
      refine wp_region_lit ?_
      refine l_op rfl (r_assign hst rfl rfl ?_)
      clear hst; intro a hst
      refine wpList_nil ?_
      refine then_n ?_
      refine wp_ret ?_
      refine inb_r ?_
      refine then_r ?_
      refine then_r ?_
      refine inb_r ?_
      refine then_r ?_
      refine x_ret (rs := [.tmp 6]) hst rfl (.tmp rfl (.nil)) ?_
      exact ⟨_, rfl, ⟨fun h => absurd h (by decide), fun h => absurd h (eq_ne ht hu (by simp_all))⟩⟩
    try simp only [n1, n2, n3, n4, n5, n6, n7, n8, n9, na, nb] at hc3
    refine wp_skip ?_
    refine inb_n ?_
    refine then_n ?_
    refine wp_region_lit ?_
    refine l_op rfl (r_bin hst rfl rfl rfl rfl rfl ?_)
    clear hst; intro a hst
    rw [wrap_in _ (by omega) (by omega)] at hst
    refine l_op rfl (r_move hst rfl rfl ?_)
    clear hst; intro a hst
    refine wpList_nil ?_
    have hst := hst.setFact (Mono.and (Sl.mono _ _ _) (Sl.mono _ _ _)) (fun h => h.2.2.2.2)
    have hst := ((hst.keep (ds := [1, 2, 15, 16, 17]) (.cons rfl (.cons rfl (.cons rfl (.cons rfl (.cons rfl (.nil))))))).drop (.cons _ (.cons _ (.slnil))))
    exact then_k ⟨_, by omega, _, _, hst, by omega, by omega, eq_next htk hi0 ht hu (by simp_all), rfl⟩
  try simp only [n1, n2, n3, n4, n5, n6, n7, n8, n9, na, nb] at hc2
  refine wp_exit ?_
  refine then_x ?_
  refine then_x ?_
  refine inb_hit ?_
  refine then_n ?_
  refine wp_seq ?_
  refine wp_region_lit ?_
  refine l_op rfl (r_assign hst rfl rfl ?_)
  clear hst; intro a hst
  refine wpList_nil ?_
  refine then_n ?_
  refine wp_ret ?_
  refine x_ret (rs := [.tmp 6]) hst rfl (.tmp rfl (.nil)) ?_
  exact ⟨_, rfl, ⟨fun _ => eq_all htk hl1.1 (hl2.1.trans (by omega)) (by omega), fun _ => rfl⟩⟩

def Invsametypes (w0 : World) (U0 : Mk) (A : Option Addr) (l c : Nat) (ts : List TyT) (A' : Option Addr) (l' c' : Nat) (us : List TyT) (mz : Nat) (a : Act) (w : World) : Prop :=
  ∃ (U : Mk) (i : Int), Sta w0 U0 27 [(0, .slice A l c), (1, .slice A' l' c'), (12, .int .i64 (l : Int)), (13, .int .i64 i)] [] [] (fun w U => Sl kT (.slice A l c) ts w U ∧ Sl kT (.slice A' l' c') us w U) a w U ∧ 0 ≤ i ∧ i ≤ l ∧ ts.take i.toNat = us.take i.toNat ∧ mz = ((l : Int) - i).toNat

theorem sametypes_c {w : World} {U : Mk} {A : Option Addr} {l c : Nat} {A' : Option Addr} {l' c' : Nat} (ts us : List TyT) (hA : Sl kT (.slice A l c) ts w U) (hB : Sl kT (.slice A' l' c') us w U) (heq : ∀ t u, t ∈ ts → u ∈ us → EqF Tryz.prog 46 kT [] t u) :
    CallsS Tryz.prog 27 [.slice A l c, .slice A' l' c'] w U (fun v _ _ => ∃ b : Bool, v = .bool b ∧ (b = true ↔ ts = us)) := by
  refine x_enter (F := fun w U => Sl kT (.slice A l c) ts w U ∧ Sl kT (.slice A' l' c') us w U) (n := 27) Tryz.func27 rfl rfl (by simp) (.cons (d := 0) rfl (.cons (d := 1) rfl (.nil))) (Mono.and (Sl.mono _ _ _) (Sl.mono _ _ _)) (⟨hA, hB⟩) ?_
  intro a hst
  refine wp_seq ?_
  refine wp_region_lit ?_
  refine l_op rfl (r_assign hst rfl rfl ?_)
  clear hst; intro a hst
  refine wpList_nil ?_
  refine then_n ?_
  refine wp_seq ?_
  refine wp_seq ?_
  have hl1 := hst.fact.1.len
  have hl2 := hst.fact.2.len
  refine wp_region_lit ?_
  refine l_op rfl (r_move hst rfl rfl ?_)
  clear hst; intro a hst
  refine l_op rfl (r_lensl hst rfl Tu63 rfl ?_)
  clear hst; intro a hst
  refine l_op rfl (r_move hst rfl rfl ?_)
  clear hst; intro a hst
  refine l_op rfl (r_lensl hst rfl Tu63 rfl ?_)
  clear hst; intro a hst
  refine l_op rfl (r_bin hst rfl rfl rfl rfl rfl ?_)
  clear hst; intro a hst
  refine wpList_nil ?_
  refine then_n ?_
  refine x_cond hst rfl (fun hc1 => ?_) (fun hc1 => ?_)
  · try simp only [n1, n2, n3, n4, n5, n6, n7, n8, n9, na, nb] at hc1
    refine wp_seq ?_
    refine wp_region_lit ?_
    refine l_op rfl (r_assign hst rfl rfl ?_)
    clear hst; intro a hst
    refine wpList_nil ?_
    refine then_n ?_
    refine wp_ret ?_
    refine then_r ?_
    refine x_ret (rs := [.tmp 4]) hst rfl (.tmp rfl (.nil)) ?_
    exact ⟨_, rfl, ⟨fun h => absurd h (by decide), fun h => absurd h (eq_len hl1.1 hl2.1 (by omega))⟩⟩
  try simp only [n1, n2, n3, n4, n5, n6, n7, n8, n9, na, nb] at hc1
  refine wp_skip ?_
  refine then_n ?_
  refine wp_seq ?_
  refine wp_seq ?_
  refine wp_region_lit ?_
  refine l_op rfl (r_move hst rfl rfl ?_)
  clear hst; intro a hst
  refine l_op rfl (r_lensl hst rfl Tu63 rfl ?_)
  clear hst; intro a hst
  refine l_op rfl (r_move hst rfl rfl ?_)
  clear hst; intro a hst
  refine wpList_nil ?_
  refine then_n ?_
  refine wp_block ?_
  have hst := ((hst.keep (ds := [0, 1, 12, 13]) (.cons rfl (.cons rfl (.cons rfl (.cons rfl (.nil)))))).drop (.slnil))
  refine wp_loop_ghost (Invsametypes _ _ A l c ts A' l' c' us) (l) ⟨_, 0, hst, by omega, by omega, rfl, by omega⟩ ?_
  clear hst
  rintro mz a w ⟨U, i, hst, hi0, hi1, htk, rfl⟩
  refine wp_seq ?_
  refine wp_region_lit ?_
  refine l_op rfl (r_bin hst rfl rfl rfl rfl rfl ?_)
  clear hst; intro a hst
  refine wpList_nil ?_
  refine then_n ?_
  refine wp_seq ?_
  refine x_cond hst rfl (fun hc2 => ?_) (fun hc2 => ?_)
  · try simp only [n1, n2, n3, n4, n5, n6, n7, n8, n9, na, nb] at hc2
    refine wp_skip ?_
    refine then_n ?_
    refine wp_seq ?_
    refine wp_block ?_
    refine wp_seq ?_
    refine wp_region_lit ?_
    refine l_op rfl (r_move hst rfl rfl ?_)
    clear hst; intro a hst
    refine l_op rfl (r_assign hst rfl rfl ?_)
    clear hst; intro a hst
    refine wpList_nil ?_
    refine then_n ?_
    refine wp_seq ?_
    obtain ⟨g, o, cs, t, rfl, ht, hR, hel⟩ := hst.fact.1.at_ i.toNat (by omega)
    obtain ⟨g', o', ds, u, rfl, hu, hR', hel'⟩ := hst.fact.2.at_ i.toNat (by omega)
    have hcl : cs.length = 4 := kT.len hR
    have hcl' : ds.length = 4 := kT.len hR'
    have hst := (((hst.addFact (kT.mono _ _) hR).addFact (kT.mono _ _) hR').addFact (Eat.mono _ _ _) hel).addFact (Eat.mono _ _ _) hel'
    refine x_drawf (by kernel_rfl) hst (.slnil) ?_
    clear hst; intro w hS hst
    refine f_take (i := 0) hS hst (.slnil) rfl rfl rfl rfl (by kernel_rfl) (by kernel_rfl) (by kernel_rfl) (fun _ _ _ h => h) (fun _ _ _ _ hst => q_move hst rfl) ?_
    clear hst; intro a hst
    refine f_take (i := 1) hS hst (.slnil) rfl rfl rfl rfl (by kernel_rfl) (by kernel_rfl) (by kernel_rfl) (fun _ _ _ h => h) (fun _ _ _ _ hst => q_move hst rfl) ?_
    clear hst; intro a hst
    refine f_take (i := 2) hS hst (.slnil) rfl rfl rfl rfl (by kernel_rfl) (by kernel_rfl) (by kernel_rfl) (fun _ _ _ h => h) (fun _ _ _ _ hst => q_indexAddr hst rfl rfl Tu63 Tsz70 (hi0) (by omega)) ?_
    clear hst; intro a hst
    refine f_take (i := 3) hS hst (.slnil) rfl rfl rfl rfl (by kernel_rfl) (by kernel_rfl) (by kernel_rfl) (fun _ _ _ h => h) (fun _ _ _ _ hst => q_eatw hst rfl Ta70 (hst.fact.2.1) hcl) ?_
    clear hst; intro a hst
    refine f_take (i := 4) hS hst (.slnil) rfl rfl rfl rfl (by kernel_rfl) (by kernel_rfl) (by kernel_rfl) (fun _ _ _ h => h) (fun _ _ _ _ hst => q_move hst rfl) ?_
    clear hst; intro a hst
    refine f_take (i := 5) hS hst (.slnil) rfl rfl rfl rfl (by kernel_rfl) (by kernel_rfl) (by kernel_rfl) (fun _ _ _ h => h) (fun _ _ _ _ hst => q_move hst rfl) ?_
    clear hst; intro a hst
    refine f_take (i := 6) hS hst (.slnil) rfl rfl rfl rfl (by kernel_rfl) (by kernel_rfl) (by kernel_rfl) (fun _ _ _ h => h) (fun _ _ _ _ hst => q_indexAddr hst rfl rfl Tu63 Tsz70 (hi0) (by omega)) ?_
    clear hst; intro a hst
    refine f_take (i := 7) hS hst (.slnil) rfl rfl rfl rfl (by kernel_rfl) (by kernel_rfl) (by kernel_rfl) (fun _ _ _ h => h) (fun _ _ _ _ hst => q_eatw hst rfl Ta70 (hst.fact.1) hcl') ?_
    clear hst; intro a hst
    refine f_one (i := 8) (by kernel_rfl) rfl rfl (r_call (xs := [(Operand.tmp 19), (Operand.tmp 23)]) hst rfl Ten46 (heq t u (List.mem_of_getElem? ht) (List.mem_of_getElem? hu) _ _ _ _ (hst.fact.2.2.2.2.1) (hst.fact.2.2.2.1)) rfl ?_)
    clear hst; rintro a _ w U ⟨be, rfl, hbe⟩ hst
    refine ⟨hst.kept (.slnil), ?_⟩
    refine f_take (i := 9) hS hst (.slnil) rfl rfl rfl rfl (by kernel_rfl) (by kernel_rfl) (by kernel_rfl) (fun _ _ _ h => h) (fun _ _ _ _ hst => q_not hst rfl) ?_
    clear hst; intro a hst
    refine f_done (by kernel_rfl) ?_
    have hst := hS.back hst
    refine then_n ?_
    refine x_cond hst rfl (fun hc3 => ?_) (fun hc3 => ?_)
    · try simp only [n1, n2, n3, n4, n5, n6, n7, n8, n9, na, nb] at hc3
      refine wp_seq ?_
      have hst := hst.setFact (Mono.and (Sl.mono _ _ _) (Sl.mono _ _ _)) (fun h => h.2.2.2.2)
      refine wp_region_lit ?_
      refine l_op rfl (r_assign hst rfl rfl ?_)
      clear hst; intro a hst
      refine wpList_nil ?_
      refine then_n ?_
      refine wp_ret ?_
      refine inb_r ?_
      refine then_r ?_
      refine then_r ?_
      refine inb_r ?_
      refine then_r ?_
      refine x_ret (rs := [.tmp 4]) hst rfl (.tmp rfl (.nil)) ?_
      exact ⟨_, rfl, ⟨fun h => absurd h (by decide), fun h => absurd h (eq_ne ht hu (by simp_all))⟩⟩
    try simp only [n1, n2, n3, n4, n5, n6, n7, n8, n9, na, nb] at hc3
    refine wp_skip ?_
    refine inb_n ?_
    refine then_n ?_
    have hst := hst.setFact (Mono.and (Sl.mono _ _ _) (Sl.mono _ _ _)) (fun h => h.2.2.2.2)
    refine wp_region_lit ?_
    refine l_op rfl (r_bin hst rfl rfl rfl rfl rfl ?_)
    clear hst; intro a hst
    rw [wrap_in _ (by omega) (by omega)] at hst
    refine l_op rfl (r_move hst rfl rfl ?_)
    clear hst; intro a hst
    refine wpList_nil ?_
    have hst := ((hst.keep (ds := [0, 1, 12, 13]) (.cons rfl (.cons rfl (.cons rfl (.cons rfl (.nil)))))).drop (.slnil))
    exact then_k ⟨_, by omega, _, _, hst, by omega, by omega, eq_next htk hi0 ht hu (by simp_all), rfl⟩
  try simp only [n1, n2, n3, n4, n5, n6, n7, n8, n9, na, nb] at hc2
  refine wp_exit ?_
  refine then_x ?_
  refine then_x ?_
  refine inb_hit ?_
  refine then_n ?_
  refine wp_seq ?_
  refine wp_region_lit ?_
  refine l_op rfl (r_assign hst rfl rfl ?_)
  clear hst; intro a hst
  refine wpList_nil ?_
  refine then_n ?_
  refine wp_ret ?_
  refine x_ret (rs := [.tmp 4]) hst rfl (.tmp rfl (.nil)) ?_
  exact ⟨_, rfl, ⟨fun _ => eq_all htk hl1.1 (hl2.1.trans (by omega)) (by omega), fun _ => rfl⟩⟩

def Invexprs (w0 : World) (U0 : Mk) (A : Option Addr) (l c : Nat) (ts : List ExT) (A' : Option Addr) (l' c' : Nat) (us : List ExT) (mz : Nat) (a : Act) (w : World) : Prop :=
  ∃ (U : Mk) (i : Int), Sta w0 U0 27 [(0, .slice A l c), (1, .slice A' l' c'), (12, .int .i64 (l : Int)), (13, .int .i64 i)] [] [] (fun w U => Sl kE (.slice A l c) ts w U ∧ Sl kE (.slice A' l' c') us w U) a w U ∧ 0 ≤ i ∧ i ≤ l ∧ ts.take i.toNat = us.take i.toNat ∧ mz = ((l : Int) - i).toNat

theorem exprs_c {w : World} {U : Mk} {A : Option Addr} {l c : Nat} {A' : Option Addr} {l' c' : Nat} (ts us : List ExT) (hA : Sl kE (.slice A l c) ts w U) (hB : Sl kE (.slice A' l' c') us w U) (heq : ∀ t u, t ∈ ts → u ∈ us → EqF Tryz.prog 29 kE [.bool false] t u) :
    CallsS Tryz.prog 28 [.slice A l c, .slice A' l' c'] w U (fun v _ _ => ∃ b : Bool, v = .bool b ∧ (b = true ↔ ts = us)) := by
  refine x_enter (F := fun w U => Sl kE (.slice A l c) ts w U ∧ Sl kE (.slice A' l' c') us w U) (n := 27) Tryz.func28 rfl rfl (by simp) (.cons (d := 0) rfl (.cons (d := 1) rfl (.nil))) (Mono.and (Sl.mono _ _ _) (Sl.mono _ _ _)) (⟨hA, hB⟩) ?_
  intro a hst
  refine wp_seq ?_
  refine wp_region_lit ?_
  refine l_op rfl (r_assign hst rfl rfl ?_)
  clear hst; intro a hst
  refine wpList_nil ?_
  refine then_n ?_
  refine wp_seq ?_
  refine wp_seq ?_
  have hl1 := hst.fact.1.len
  have hl2 := hst.fact.2.len
  refine wp_region_lit ?_
  refine l_op rfl (r_move hst rfl rfl ?_)
  clear hst; intro a hst
  refine l_op rfl (r_lensl hst rfl Tu56 rfl ?_)
  clear hst; intro a hst
  refine l_op rfl (r_move hst rfl rfl ?_)
  clear hst; intro a hst
  refine l_op rfl (r_lensl hst rfl Tu56 rfl ?_)
  clear hst; intro a hst
  refine l_op rfl (r_bin hst rfl rfl rfl rfl rfl ?_)
  clear hst; intro a hst
  refine wpList_nil ?_
  refine then_n ?_
  refine x_cond hst rfl (fun hc1 => ?_) (fun hc1 => ?_)
  · try simp only [n1, n2, n3, n4, n5, n6, n7, n8, n9, na, nb] at hc1
    refine wp_seq ?_
    refine wp_region_lit ?_
    refine l_op rfl (r_assign hst rfl rfl ?_)
    clear hst; intro a hst
    refine wpList_nil ?_
    refine then_n ?_
    refine wp_ret ?_
    refine then_r ?_
    refine x_ret (rs := [.tmp 4]) hst rfl (.tmp rfl (.nil)) ?_
    exact ⟨_, rfl, ⟨fun h => absurd h (by decide), fun h => absurd h (eq_len hl1.1 hl2.1 (by omega))⟩⟩
  try simp only [n1, n2, n3, n4, n5, n6, n7, n8, n9, na, nb] at hc1
  refine wp_skip ?_
  refine then_n ?_
  refine wp_seq ?_
  refine wp_seq ?_
  refine wp_region_lit ?_
  refine l_op rfl (r_move hst rfl rfl ?_)
  clear hst; intro a hst
  refine l_op rfl (r_lensl hst rfl Tu56 rfl ?_)
  clear hst; intro a hst
  refine l_op rfl (r_move hst rfl rfl ?_)
  clear hst; intro a hst
  refine wpList_nil ?_
  refine then_n ?_
  refine wp_block ?_
  have hst := ((hst.keep (ds := [0, 1, 12, 13]) (.cons rfl (.cons rfl (.cons rfl (.cons rfl (.nil)))))).drop (.slnil))
  refine wp_loop_ghost (Invexprs _ _ A l c ts A' l' c' us) (l) ⟨_, 0, hst, by omega, by omega, rfl, by omega⟩ ?_
  clear hst
  rintro mz a w ⟨U, i, hst, hi0, hi1, htk, rfl⟩
  refine wp_seq ?_
  refine wp_region_lit ?_
  refine l_op rfl (r_bin hst rfl rfl rfl rfl rfl ?_)
  clear hst; intro a hst
  refine wpList_nil ?_
  refine then_n ?_
  refine wp_seq ?_
  refine x_cond hst rfl (fun hc2 => ?_) (fun hc2 => ?_)
  · try simp only [n1, n2, n3, n4, n5, n6, n7, n8, n9, na, nb] at hc2
    refine wp_skip ?_
    refine then_n ?_
    refine wp_seq ?_
    refine wp_block ?_
    refine wp_seq ?_
    refine wp_region_lit ?_
    refine l_op rfl (r_move hst rfl rfl ?_)
    clear hst; intro a hst
    refine l_op rfl (r_assign hst rfl rfl ?_)
    clear hst; intro a hst
    refine wpList_nil ?_
    refine then_n ?_
    refine wp_seq ?_
    obtain ⟨g, o, cs, t, rfl, ht, hR, hel⟩ := hst.fact.1.at_ i.toNat (by omega)
    obtain ⟨g', o', ds, u, rfl, hu, hR', hel'⟩ := hst.fact.2.at_ i.toNat (by omega)
    have hcl : cs.length = 6 := kE.len hR
    have hcl' : ds.length = 6 := kE.len hR'
    have hst := (((hst.addFact (kE.mono _ _) hR).addFact (kE.mono _ _) hR').addFact (Eat.mono _ _ _) hel).addFact (Eat.mono _ _ _) hel'
    refine x_drawf (by kernel_rfl) hst (.slnil) ?_
    clear hst; intro w hS hst
    refine f_take (i := 0) hS hst (.slnil) rfl rfl rfl rfl (by kernel_rfl) (by kernel_rfl) (by kernel_rfl) (fun _ _ _ h => h) (fun _ _ _ _ hst => q_move hst rfl) ?_
    clear hst; intro a hst
    refine f_take (i := 1) hS hst (.slnil) rfl rfl rfl rfl (by kernel_rfl) (by kernel_rfl) (by kernel_rfl) (fun _ _ _ h => h) (fun _ _ _ _ hst => q_move hst rfl) ?_
    clear hst; intro a hst
    refine f_take (i := 2) hS hst (.slnil) rfl rfl rfl rfl (by kernel_rfl) (by kernel_rfl) (by kernel_rfl) (fun _ _ _ h => h) (fun _ _ _ _ hst => q_indexAddr hst rfl rfl Tu56 Tsz58 (hi0) (by omega)) ?_
    clear hst; intro a hst
    refine f_take (i := 3) hS hst (.slnil) rfl rfl rfl rfl (by kernel_rfl) (by kernel_rfl) (by kernel_rfl) (fun _ _ _ h => h) (fun _ _ _ _ hst => q_eatw hst rfl Ta58 (hst.fact.2.1) hcl) ?_
    clear hst; intro a hst
    refine f_take (i := 4) hS hst (.slnil) rfl rfl rfl rfl (by kernel_rfl) (by kernel_rfl) (by kernel_rfl) (fun _ _ _ h => h) (fun _ _ _ _ hst => q_move hst rfl) ?_
    clear hst; intro a hst
    refine f_take (i := 5) hS hst (.slnil) rfl rfl rfl rfl (by kernel_rfl) (by kernel_rfl) (by kernel_rfl) (fun _ _ _ h => h) (fun _ _ _ _ hst => q_move hst rfl) ?_
    clear hst; intro a hst
    refine f_take (i := 6) hS hst (.slnil) rfl rfl rfl rfl (by kernel_rfl) (by kernel_rfl) (by kernel_rfl) (fun _ _ _ h => h) (fun _ _ _ _ hst => q_indexAddr hst rfl rfl Tu56 Tsz58 (hi0) (by omega)) ?_
    clear hst; intro a hst
    refine f_take (i := 7) hS hst (.slnil) rfl rfl rfl rfl (by kernel_rfl) (by kernel_rfl) (by kernel_rfl) (fun _ _ _ h => h) (fun _ _ _ _ hst => q_eatw hst rfl Ta58 (hst.fact.1) hcl') ?_
    clear hst; intro a hst
    refine f_one (i := 8) (by kernel_rfl) rfl rfl (r_call (xs := [(Operand.tmp 19), (Operand.tmp 23), (Operand.const (Value.bool false))]) hst rfl Ten29 (heq t u (List.mem_of_getElem? ht) (List.mem_of_getElem? hu) _ _ _ _ (hst.fact.2.2.2.2.1) (hst.fact.2.2.2.1)) rfl ?_)
    clear hst; rintro a _ w U ⟨be, rfl, hbe⟩ hst
    refine ⟨hst.kept (.slnil), ?_⟩
    refine f_take (i := 9) hS hst (.slnil) rfl rfl rfl rfl (by kernel_rfl) (by kernel_rfl) (by kernel_rfl) (fun _ _ _ h => h) (fun _ _ _ _ hst => q_not hst rfl) ?_
    clear hst; intro a hst
    refine f_done (by kernel_rfl) ?_
    have hst := hS.back hst
    refine then_n ?_
    refine x_cond hst rfl (fun hc3 => ?_) (fun hc3 => ?_)
    · try simp only [n1, n2, n3, n4, n5, n6, n7, n8, n9, na, nb] at hc3
      refine wp_seq ?_
      have hst := hst.setFact (Mono.and (Sl.mono _ _ _) (Sl.mono _ _ _)) (fun h => h.2.2.2.2)
      refine wp_region_lit ?_
      refine l_op rfl (r_assign hst rfl rfl ?_)
      clear hst; intro a hst
      refine wpList_nil ?_
      refine then_n ?_
      refine wp_ret ?_
      refine inb_r ?_
      refine then_r ?_
      refine then_r ?_
      refine inb_r ?_
      refine then_r ?_
      refine x_ret (rs := [.tmp 4]) hst rfl (.tmp rfl (.nil)) ?_
      exact ⟨_, rfl, ⟨fun h => absurd h (by decide), fun h => absurd h (eq_ne ht hu (by simp_all))⟩⟩
    try simp only [n1, n2, n3, n4, n5, n6, n7, n8, n9, na, nb] at hc3
    refine wp_skip ?_
    refine inb_n ?_
    refine then_n ?_
    have hst := hst.setFact (Mono.and (Sl.mono _ _ _) (Sl.mono _ _ _)) (fun h => h.2.2.2.2)
    refine wp_region_lit ?_
    refine l_op rfl (r_bin hst rfl rfl rfl rfl rfl ?_)
    clear hst; intro a hst
    rw [wrap_in _ (by omega) (by omega)] at hst
    refine l_op rfl (r_move hst rfl rfl ?_)
    clear hst; intro a hst
    refine wpList_nil ?_
    have hst := ((hst.keep (ds := [0, 1, 12, 13]) (.cons rfl (.cons rfl (.cons rfl (.cons rfl (.nil)))))).drop (.slnil))
    exact then_k ⟨_, by omega, _, _, hst, by omega, by omega, eq_next htk hi0 ht hu (by simp_all), rfl⟩
  try simp only [n1, n2, n3, n4, n5, n6, n7, n8, n9, na, nb] at hc2
  refine wp_exit ?_
  refine then_x ?_
  refine then_x ?_
  refine inb_hit ?_
  refine then_n ?_
  refine wp_seq ?_
  refine wp_region_lit ?_
  refine l_op rfl (r_assign hst rfl rfl ?_)
  clear hst; intro a hst
  refine wpList_nil ?_
  refine then_n ?_
  refine wp_ret ?_
  refine x_ret (rs := [.tmp 4]) hst rfl (.tmp rfl (.nil)) ?_
  exact ⟨_, rfl, ⟨fun _ => eq_all htk hl1.1 (hl2.1.trans (by omega)) (by omega), fun _ => rfl⟩⟩
end Go.Proofs.YtjnjkbmegfkiiaaGreat
