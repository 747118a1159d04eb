/- The law's own comparing of modules. -/
import Derived.Test.YtjnjkbmegfkiiaaGreatR9
namespace Go.Proofs.YtjnjkbmegfkiiaaGreat
open Go.RowKit
set_option maxRecDepth 10000
set_option linter.unusedVariables false
set_option linter.unusedSimpArgs false
attribute [local irreducible] Oper.wp Code.wp wpList wpAny wpOp Calls CallsS
theorem DaT.same {t u : DaT} (h1 : t.nm = u.nm) (h2 : t.vars = u.vars) (h3 : t.cons = u.cons) : t = u := by cases t; cases u; simp_all
theorem CoT.same {t u : CoT} (h1 : t.nm = u.nm) (h2 : t.tys = u.tys) : t = u := by cases t; cases u; simp_all
theorem RuT.same {t u : RuT} (h1 : t.nm = u.nm) (h2 : t.pats = u.pats) (h3 : t.guard = u.guard) (h4 : t.body = u.body) : t = u := by cases t; cases u; simp_all
def InvSame1 (w0 : World) (U0 : Mk) (N : Nat) (A : Option Addr) (l c : Nat) (A' : Option Addr) (l' c' : Nat) (B : Option Addr) (j d : Nat) (B' : Option Addr) (j' d' : Nat) (ts us : List DaT) (ps qs : List RuT) (g1 g2 : Nat) (mz : Nat) (a : Act) (w : World) : Prop :=
  ∃ (U : Mk) (i : Int), Sta w0 U0 138 [(2, .pointer (some ⟨g1, 0, none⟩)), (3, .pointer (some ⟨g2, 0, none⟩)), (30, .slice A l c), (31, .int .i64 (l : Int)), (32, .int .i64 i)] [⟨g2, 26, [.slice A' l' c', .slice B' j' d']⟩, ⟨g1, 26, [.slice A l c, .slice B j d]⟩] [] (fun w U => (Sl (kDn N) (.slice A l c) ts w U ∧ Sl (kDn N) (.slice A' l' c') us w U) ∧ (Sl (kRn N) (.slice B j d) ps w U ∧ Sl (kRn N) (.slice B' j' d') qs w U)) a w U ∧ 0 ≤ i ∧ i ≤ l ∧ ts.take i.toNat = us.take i.toNat ∧ mz = ((l : Int) - i).toNat
def InvSame2 (w0 : World) (U0 : Mk) (N : Nat) (A : Option Addr) (l c : Nat) (A' : Option Addr) (l' c' : Nat) (B : Option Addr) (j d : Nat) (B' : Option Addr) (j' d' : Nat) (ts us : List DaT) (ps qs : List RuT) (i : Int) (C : Option Addr) (e f : Nat) (C' : Option Addr) (e' f' : Nat) (s' : ByteArray) (V : Value) (x y : Int) (ks ls : List CoT) (g1 g2 g4 : Nat) (mz : Nat) (a : Act) (w : World) : Prop :=
  ∃ (U : Mk) (q : Int), Sta w0 U0 138 [(2, .pointer (some ⟨g1, 0, none⟩)), (3, .pointer (some ⟨g2, 0, none⟩)), (30, .slice A l c), (31, .int .i64 (l : Int)), (32, .int .i64 i), (7, .pointer (some ⟨g4, 0, none⟩)), (65, .slice C e f), (66, .int .i64 (e : Int)), (67, .int .i64 q)] [⟨g4, 42, [.string s', V, .slice C' e' f', .int .i64 x, .int .i64 y]⟩, ⟨g2, 26, [.slice A' l' c', .slice B' j' d']⟩, ⟨g1, 26, [.slice A l c, .slice B j d]⟩] [] (fun w U => ((Sl (kDn N) (.slice A l c) ts w U ∧ Sl (kDn N) (.slice A' l' c') us w U) ∧ (Sl (kRn N) (.slice B j d) ps w U ∧ Sl (kRn N) (.slice B' j' d') qs w U)) ∧ (Sl kC (.slice C e f) ks w U ∧ Sl kC (.slice C' e' f') ls w U)) a w U ∧ 0 ≤ q ∧ q ≤ e ∧ ks.take q.toNat = ls.take q.toNat ∧ mz = ((e : Int) - q).toNat
def InvSame3 (w0 : World) (U0 : Mk) (N : Nat) (A : Option Addr) (l c : Nat) (A' : Option Addr) (l' c' : Nat) (B : Option Addr) (j d : Nat) (B' : Option Addr) (j' d' : Nat) (ts us : List DaT) (ps qs : List RuT) (g2 : Nat) (mz : Nat) (a : Act) (w : World) : Prop :=
  ∃ (U : Mk) (r : Int), Sta w0 U0 138 [(3, .pointer (some ⟨g2, 0, none⟩)), (96, .slice B j d), (97, .int .i64 (j : Int)), (98, .int .i64 r)] [⟨g2, 26, [.slice A' l' c', .slice B' j' d']⟩] [] (fun w U => (Sl (kDn N) (.slice A l c) ts w U ∧ Sl (kDn N) (.slice A' l' c') us w U) ∧ (Sl (kRn N) (.slice B j d) ps w U ∧ Sl (kRn N) (.slice B' j' d') qs w U)) a w U ∧ 0 ≤ r ∧ r ≤ j ∧ ps.take r.toNat = qs.take r.toNat ∧ mz = ((j : Int) - r).toNat

theorem samemod_c {w : World} {U : Mk} {N : Nat} {A : Option Addr} {l c : Nat} {A' : Option Addr} {l' c' : Nat} {B : Option Addr} {j d : Nat} {B' : Option Addr} {j' d' : Nat} (ts us : List DaT) (ps qs : List RuT) (hF : (Sl (kDn N) (.slice A l c) ts w U ∧ Sl (kDn N) (.slice A' l' c') us w U) ∧ (Sl (kRn N) (.slice B j d) ps w U ∧ Sl (kRn N) (.slice B' j' d') qs w U)) :
    CallsS Tryz.prog 8 [.agg #[.slice A l c, .slice B j d], .agg #[.slice A' l' c', .slice B' j' d']] w U (fun v _ _ => ∃ b : Bool, v = .bool b ∧ (b = true ↔ ts = us ∧ ps = qs)) := by
  refine x_enter (F := fun w U => (Sl (kDn N) (.slice A l c) ts w U ∧ Sl (kDn N) (.slice A' l' c') us w U) ∧ (Sl (kRn N) (.slice B j d) ps w U ∧ Sl (kRn N) (.slice B' j' d') qs w U)) (n := 138) Tryz.func8 rfl rfl (by simp) (.cons (d := 0) rfl (.cons (d := 1) rfl (.nil))) (Mono.and (Mono.and (Sl.mono _ _ _) (Sl.mono _ _ _)) (Mono.and (Sl.mono _ _ _) (Sl.mono _ _ _))) (hF) ?_
  intro a hst
  refine wp_seq ?_
  refine wp_region_lit ?_
  refine l_op rfl (r_box hst rfl rfl rfl ?_)
  clear hst; intro a w g1 hst
  refine l_op rfl (r_box hst rfl rfl rfl ?_)
  clear hst; intro a w g2 hst
  refine l_op rfl (r_assign hst rfl rfl ?_)
  clear hst; intro a hst
  refine wpList_nil ?_
  refine then_n ?_
  refine wp_seq ?_
  refine wp_seq ?_
  have hl1 := hst.fact.1.1.len
  have hl2 := hst.fact.1.2.len
  have hl3 := hst.fact.2.1.len
  have hl4 := hst.fact.2.2.len
  refine wp_region_lit ?_
  refine l_op rfl (r_fieldAddr hst rfl Tf26_0 rfl ?_)
  clear hst; intro a hst
  refine l_op rfl (r_loads hst rfl Ts23 (.tail _ (.head _)) rfl rfl ?_)
  clear hst; intro a hst
  refine l_op rfl (r_lensl hst rfl Tu23 rfl ?_)
  clear hst; intro a hst
  refine l_op rfl (r_fieldAddr hst rfl Tf26_0 rfl ?_)
  clear hst; intro a hst
  refine l_op rfl (r_loads hst rfl Ts23 (.head _) rfl rfl ?_)
  clear hst; intro a hst
  refine l_op rfl (r_lensl hst rfl Tu23 rfl ?_)
  clear hst; intro a hst
  refine l_op rfl (r_bin hst rfl rfl rfl rfl rfl ?_)
  clear hst; intro a hst
  refine l_op rfl (r_move hst rfl rfl ?_)
  clear hst; intro a hst
  refine hst.split (t := 20) rfl (fun hc1 hst => ?_) (fun hc1 hst => ?_)
  · try simp only [n1, n2, n3, n4, n5, n6, n7, n8, n9, na, nb] at hc1
    refine l_off hst rfl rfl rfl (by decide) rfl rfl ?_
    clear hst; intro a hst
    refine l_off hst rfl rfl rfl (by decide) rfl rfl ?_
    clear hst; intro a hst
    refine l_off hst rfl rfl rfl (by decide) rfl rfl ?_
    clear hst; intro a hst
    refine l_off hst rfl rfl rfl (by decide) rfl rfl ?_
    clear hst; intro a hst
    refine l_off hst rfl rfl rfl (by decide) rfl rfl ?_
    clear hst; intro a hst
    refine l_off hst rfl rfl rfl (by decide) rfl rfl ?_
    clear hst; intro a hst
    refine l_off hst rfl rfl rfl (by decide) rfl rfl ?_
    clear hst; intro a hst
    refine l_op rfl (r_pick hst rfl rfl rfl ?_)
    clear hst; intro a hst
    refine wpList_nil ?_
    refine then_n ?_
    refine x_cond_t hst rfl ?_
    refine wp_seq ?_
    refine wp_region_lit ?_
    refine l_op rfl (r_assign hst rfl rfl ?_)
    clear hst; intro a hst
    refine wpList_nil ?_
    refine then_n ?_
    refine wp_ret ?_
    refine then_r ?_
    refine x_ret (rs := [.tmp 4]) hst rfl (.tmp rfl (.nil)) ?_
    exact ⟨_, rfl, ⟨fun h => absurd h (by decide), fun h => by first | exact absurd h.1 (eq_len hl1.1 hl2.1 (by omega)) | exact absurd h.2 (eq_len hl3.1 hl4.1 (by omega))⟩⟩
  try simp only [n1, n2, n3, n4, n5, n6, n7, n8, n9, na, nb] at hc1
  refine l_on hst rfl rfl rfl (r_fieldAddr hst rfl Tf26_1 rfl ?_)
  clear hst; intro a hst
  refine l_on hst rfl rfl rfl (r_loads hst rfl Ts24 (.tail _ (.head _)) rfl rfl ?_)
  clear hst; intro a hst
  refine l_on hst rfl rfl rfl (r_lensl hst rfl Tu24 rfl ?_)
  clear hst; intro a hst
  refine l_on hst rfl rfl rfl (r_fieldAddr hst rfl Tf26_1 rfl ?_)
  clear hst; intro a hst
  refine l_on hst rfl rfl rfl (r_loads hst rfl Ts24 (.head _) rfl rfl ?_)
  clear hst; intro a hst
  refine l_on hst rfl rfl rfl (r_lensl hst rfl Tu24 rfl ?_)
  clear hst; intro a hst
  refine l_on hst rfl rfl rfl (r_bin hst rfl rfl rfl rfl rfl ?_)
  clear hst; intro a hst
  refine l_op rfl (r_pick hst rfl rfl rfl ?_)
  clear hst; intro a hst
  refine wpList_nil ?_
  refine then_n ?_
  refine x_cond hst rfl (fun hc2 => ?_) (fun hc2 => ?_)
  · try simp only [n1, n2, n3, n4, n5, n6, n7, n8, n9, na, nb] at hc2
    refine wp_seq ?_
    refine wp_region_lit ?_
    refine l_op rfl (r_assign hst rfl rfl ?_)
    clear hst; intro a hst
    refine wpList_nil ?_
    refine then_n ?_
    refine wp_ret ?_
    refine then_r ?_
    refine x_ret (rs := [.tmp 4]) hst rfl (.tmp rfl (.nil)) ?_
    exact ⟨_, rfl, ⟨fun h => absurd h (by decide), fun h => by first | exact absurd h.1 (eq_len hl1.1 hl2.1 (by omega)) | exact absurd h.2 (eq_len hl3.1 hl4.1 (by omega))⟩⟩
  try simp only [n1, n2, n3, n4, n5, n6, n7, n8, n9, na, nb] at hc2
  refine wp_skip ?_
  refine then_n ?_
  refine wp_seq ?_
  refine wp_seq ?_
  refine wp_region_lit ?_
  refine l_op rfl (r_fieldAddr hst rfl Tf26_0 rfl ?_)
  clear hst; intro a hst
  refine l_op rfl (r_loads hst rfl Ts23 (.tail _ (.head _)) rfl rfl ?_)
  clear hst; intro a hst
  refine l_op rfl (r_lensl hst rfl Tu23 rfl ?_)
  clear hst; intro a hst
  refine l_op rfl (r_move hst rfl rfl ?_)
  clear hst; intro a hst
  refine wpList_nil ?_
  refine then_n ?_
  refine wp_block ?_
  have hst := ((hst.keep (ds := [2, 3, 30, 31, 32]) (.cons rfl (.cons rfl (.cons rfl (.cons rfl (.cons rfl (.nil))))))).drop (.cons_cons _ (.cons_cons _ (.slnil))))
  refine wp_loop_ghost (InvSame1 _ _ N A l c A' l' c' B j d B' j' d' ts us ps qs g1 g2) (l) ⟨_, 0, hst, by omega, by omega, rfl, by omega⟩ ?_
  clear hst
  rintro mz a w ⟨U, i, hst, hi0, hi1, htk, rfl⟩
  refine wp_seq ?_
  refine wp_region_lit ?_
  refine l_op rfl (r_bin hst rfl rfl rfl rfl rfl ?_)
  clear hst; intro a hst
  refine wpList_nil ?_
  refine then_n ?_
  refine wp_seq ?_
  refine x_cond hst rfl (fun hc3 => ?_) (fun hc3 => ?_)
  · try simp only [n1, n2, n3, n4, n5, n6, n7, n8, n9, na, nb] at hc3
    refine wp_skip ?_
    refine then_n ?_
    refine wp_seq ?_
    refine wp_block ?_
    refine wp_seq ?_
    obtain ⟨g, o, cs, t, rfl, ht, ⟨s1, v1, u1, x1, y1, rfl, hs1, hv1, hu1, _, _⟩, hel⟩ := hst.fact.1.1.at_ i.toNat (by omega)
    obtain ⟨g', o', ds, u, rfl, hu, ⟨s2, v2, u2, x2, y2, rfl, hs2, hv2, hu2, _, _⟩, hel'⟩ := hst.fact.1.2.at_ i.toNat (by omega)
    obtain ⟨A1, l1, c1, rfl⟩ := hv1.slice
    obtain ⟨A2, l2, c2, rfl⟩ := hv2.slice
    obtain ⟨C1, e1, f1, rfl⟩ := hu1.slice
    obtain ⟨C2, e2, f2, rfl⟩ := hu2.slice
    have hk1 := hu1.len
    have hk2 := hu2.len
    have hst := hst.newFact (Mono.and (Mono.and (Mono.and (Sl.mono _ _ _) (Sl.mono _ _ _)) (Mono.and (Sl.mono _ _ _) (Sl.mono _ _ _))) (Mono.and (Mono.and (Sl.mono kS _ _) (Sl.mono kS _ _)) (Mono.and (Mono.and (Sl.mono kC _ _) (Sl.mono kC _ _)) (Mono.and (Eat.mono _ _ _) (Eat.mono _ _ _))))) ⟨hst.fact, ⟨hv1, hv2⟩, ⟨hu1, hu2⟩, hel, hel'⟩
    refine wp_region_lit ?_
    refine l_op rfl (r_move hst rfl rfl ?_)
    clear hst; intro a hst
    refine l_op rfl (r_indexAddr hst rfl rfl Tu23 Tsz42 (hi0) (by omega) rfl ?_)
    clear hst; intro a hst
    refine l_op rfl (r_eata hst rfl Ta42 (hst.fact.2.2.2.1) (j := 0) rfl (.cons rfl (.cons rfl (.cons rfl (.cons rfl (.cons rfl (.nil)))))) rfl rfl ?_)
    clear hst; intro a hst
    refine l_op rfl (r_alloc hst Tz42 rfl ?_)
    clear hst; intro a w g3 hst
    refine l_op rfl (r_assign hst rfl rfl ?_)
    clear hst; intro a hst
    refine l_op rfl (r_store hst rfl rfl rfl Tsz42 rfl (.head (.here (.here (.here (.here (.here (.nil (Nat.zero_le _)))))))) ?_)
    clear hst; intro w hst
    refine wpList_nil ?_
    refine then_n ?_
    refine wp_seq ?_
    refine wp_region_lit ?_
    refine l_op rfl (r_fieldAddr hst rfl Tf26_0 rfl ?_)
    clear hst; intro a hst
    refine l_op rfl (r_loads hst rfl Ts23 (.tail _ (.head _)) rfl rfl ?_)
    clear hst; intro a hst
    refine l_op rfl (r_move hst rfl rfl ?_)
    clear hst; intro a hst
    refine l_op rfl (r_indexAddr hst rfl rfl Tu23 Tsz42 (hi0) (by omega) rfl ?_)
    clear hst; intro a hst
    refine l_op rfl (r_eata hst rfl Ta42 (hst.fact.2.2.2.2) (j := 0) rfl (.cons rfl (.cons rfl (.cons rfl (.cons rfl (.cons rfl (.nil)))))) rfl rfl ?_)
    clear hst; intro a hst
    refine l_op rfl (r_alloc hst Tz42 rfl ?_)
    clear hst; intro a w g4 hst
    refine l_op rfl (r_store hst rfl rfl rfl Tsz42 rfl (.head (.here (.here (.here (.here (.here (.nil (Nat.zero_le _)))))))) ?_)
    clear hst; intro w hst
    refine wpList_nil ?_
    refine then_n ?_
    refine wp_seq ?_
    refine wp_seq ?_
    refine wp_region_lit ?_
    refine l_op rfl (r_fieldAddr hst rfl Tf42_0 rfl ?_)
    clear hst; intro a hst
    refine l_op rfl (r_loads hst rfl Ts9 (.tail _ (.head _)) rfl rfl ?_)
    clear hst; intro a hst
    refine l_op rfl (r_fieldAddr hst rfl Tf42_0 rfl ?_)
    clear hst; intro a hst
    refine l_op rfl (r_loads hst rfl Ts9 (.head _) rfl rfl ?_)
    clear hst; intro a hst
    refine l_op rfl (r_bin hst rfl rfl rfl rfl rfl ?_)
    clear hst; intro a hst
    refine l_op rfl (r_move hst rfl rfl ?_)
    clear hst; intro a hst
    refine hst.split (t := 47) rfl (fun hc4 hst => ?_) (fun hc4 hst => ?_)
    · try simp only [n1, n2, n3, n4, n5, n6, n7, n8, n9, na, nb] at hc4
      refine l_off hst rfl rfl rfl (by decide) rfl rfl ?_
      clear hst; intro a hst
      refine l_off hst rfl rfl rfl (by decide) rfl rfl ?_
      clear hst; intro a hst
      refine l_off hst rfl rfl rfl (by decide) rfl rfl ?_
      clear hst; intro a hst
      refine l_off hst rfl rfl rfl (by decide) rfl rfl ?_
      clear hst; intro a hst
      refine l_off hst rfl rfl rfl (by decide) rfl rfl ?_
      clear hst; intro a hst
      refine l_off hst rfl rfl rfl (by decide) rfl rfl ?_
      clear hst; intro a hst
      refine l_op rfl (r_pick hst rfl rfl rfl ?_)
      clear hst; intro a hst
      refine l_op rfl (r_move hst rfl rfl ?_)
      clear hst; intro a hst
      refine l_off hst rfl rfl rfl (by decide) rfl rfl ?_
      clear hst; intro a hst
      refine l_off hst rfl rfl rfl (by decide) rfl rfl ?_
      clear hst; intro a hst
      refine l_off hst rfl rfl rfl (by decide) rfl rfl ?_
      clear hst; intro a hst
      refine l_off hst rfl rfl rfl (by decide) rfl rfl ?_
      clear hst; intro a hst
      refine l_off hst rfl rfl rfl (by decide) rfl rfl ?_
      clear hst; intro a hst
      refine l_off hst rfl rfl rfl (by decide) rfl rfl ?_
      clear hst; intro a hst
      refine l_off hst rfl rfl rfl (by decide) rfl rfl ?_
      clear hst; intro a hst
      refine l_op rfl (r_pick hst rfl rfl rfl ?_)
      clear hst; intro a hst
      refine wpList_nil ?_
      refine then_n ?_
      refine x_cond_t hst rfl ?_
      refine wp_seq ?_
      refine wp_region_lit ?_
      refine l_op rfl (r_assign hst rfl rfl ?_)
      clear hst; intro a hst
      refine wpList_nil ?_
      refine then_n ?_
      refine wp_ret ?_
      refine then_r ?_
      refine inb_r ?_
      refine then_r ?_
      refine then_r ?_
      refine inb_r ?_
      refine then_r ?_
      refine x_ret (rs := [.tmp 4]) hst rfl (.tmp rfl (.nil)) ?_
      exact ⟨_, rfl, ⟨fun h => absurd h (by decide), fun h => absurd h.1 (eq_ne ht hu (fun e => by subst e; first | omega | grind))⟩⟩
    try simp only [n1, n2, n3, n4, n5, n6, n7, n8, n9, na, nb] at hc4
    refine l_on hst rfl rfl rfl (r_fieldAddr hst rfl Tf42_1 rfl ?_)
    clear hst; intro a hst
    refine l_on hst rfl rfl rfl (r_loads hst rfl Ts39 (.tail _ (.head _)) rfl rfl ?_)
    clear hst; intro a hst
    refine l_on hst rfl rfl rfl (r_fieldAddr hst rfl Tf42_1 rfl ?_)
    clear hst; intro a hst
    refine l_on hst rfl rfl rfl (r_loads hst rfl Ts39 (.head _) rfl rfl ?_)
    clear hst; intro a hst
    refine l_on hst rfl rfl rfl (r_call (xs := [(Operand.tmp 49), (Operand.tmp 51)]) hst rfl Ten26 (texts_c _ _ hst.fact.2.1.1 hst.fact.2.1.2) rfl ?_)
    clear hst; rintro a _ w U ⟨bt, rfl, hbt⟩ hst
    refine l_on hst rfl rfl rfl (r_not hst rfl rfl ?_)
    clear hst; intro a hst
    refine l_op rfl (r_pick hst rfl rfl rfl ?_)
    clear hst; intro a hst
    refine l_op rfl (r_move hst rfl rfl ?_)
    clear hst; intro a hst
    refine hst.split (t := 55) rfl (fun hc5 hst => ?_) (fun hc5 hst => ?_)
    · try simp only [n1, n2, n3, n4, n5, n6, n7, n8, n9, na, nb] at hc5
      refine l_off hst rfl rfl rfl (by decide) rfl rfl ?_
      clear hst; intro a hst
      refine l_off hst rfl rfl rfl (by decide) rfl rfl ?_
      clear hst; intro a hst
      refine l_off hst rfl rfl rfl (by decide) rfl rfl ?_
      clear hst; intro a hst
      refine l_off hst rfl rfl rfl (by decide) rfl rfl ?_
      clear hst; intro a hst
      refine l_off hst rfl rfl rfl (by decide) rfl rfl ?_
      clear hst; intro a hst
      refine l_off hst rfl rfl rfl (by decide) rfl rfl ?_
      clear hst; intro a hst
      refine l_off hst rfl rfl rfl (by decide) rfl rfl ?_
      clear hst; intro a hst
      refine l_op rfl (r_pick hst rfl rfl rfl ?_)
      clear hst; intro a hst
      refine wpList_nil ?_
      refine then_n ?_
      refine x_cond_t hst rfl ?_
      refine wp_seq ?_
      refine wp_region_lit ?_
      refine l_op rfl (r_assign hst rfl rfl ?_)
      clear hst; intro a hst
      refine wpList_nil ?_
      refine then_n ?_
      refine wp_ret ?_
      refine then_r ?_
      refine inb_r ?_
      refine then_r ?_
      refine then_r ?_
      refine inb_r ?_
      refine then_r ?_
      refine x_ret (rs := [.tmp 4]) hst rfl (.tmp rfl (.nil)) ?_
      exact ⟨_, rfl, ⟨fun h => absurd h (by decide), fun h => absurd h.1 (eq_ne ht hu (fun e => by subst e; first | omega | grind))⟩⟩
    try simp only [n1, n2, n3, n4, n5, n6, n7, n8, n9, na, nb] at hc5
    refine l_on hst rfl rfl rfl (r_fieldAddr hst rfl Tf42_2 rfl ?_)
    clear hst; intro a hst
    refine l_on hst rfl rfl rfl (r_loads hst rfl Ts40 (.tail _ (.head _)) rfl rfl ?_)
    clear hst; intro a hst
    refine l_on hst rfl rfl rfl (r_lensl hst rfl Tu40 rfl ?_)
    clear hst; intro a hst
    refine l_on hst rfl rfl rfl (r_fieldAddr hst rfl Tf42_2 rfl ?_)
    clear hst; intro a hst
    refine l_on hst rfl rfl rfl (r_loads hst rfl Ts40 (.head _) rfl rfl ?_)
    clear hst; intro a hst
    refine l_on hst rfl rfl rfl (r_lensl hst rfl Tu40 rfl ?_)
    clear hst; intro a hst
    refine l_on hst rfl rfl rfl (r_bin hst rfl rfl rfl rfl rfl ?_)
    clear hst; intro a hst
    refine l_op rfl (r_pick hst rfl rfl rfl ?_)
    clear hst; intro a hst
    refine wpList_nil ?_
    refine then_n ?_
    refine x_cond hst rfl (fun hc6 => ?_) (fun hc6 => ?_)
    · try simp only [n1, n2, n3, n4, n5, n6, n7, n8, n9, na, nb] at hc6
      refine wp_seq ?_
      refine wp_region_lit ?_
      refine l_op rfl (r_assign hst rfl rfl ?_)
      clear hst; intro a hst
      refine wpList_nil ?_
      refine then_n ?_
      refine wp_ret ?_
      refine then_r ?_
      refine inb_r ?_
      refine then_r ?_
      refine then_r ?_
      refine inb_r ?_
      refine then_r ?_
      refine x_ret (rs := [.tmp 4]) hst rfl (.tmp rfl (.nil)) ?_
      exact ⟨_, rfl, ⟨fun h => absurd h (by decide), fun h => absurd h.1 (eq_ne ht hu (fun e => by subst e; first | omega | grind))⟩⟩
    try simp only [n1, n2, n3, n4, n5, n6, n7, n8, n9, na, nb] at hc6
    refine wp_skip ?_
    refine then_n ?_
    refine wp_seq ?_
    refine wp_region_lit ?_
    refine l_op rfl (r_fieldAddr hst rfl Tf42_2 rfl ?_)
    clear hst; intro a hst
    refine l_op rfl (r_loads hst rfl Ts40 (.tail _ (.head _)) rfl rfl ?_)
    clear hst; intro a hst
    refine l_op rfl (r_lensl hst rfl Tu40 rfl ?_)
    clear hst; intro a hst
    refine l_op rfl (r_move hst rfl rfl ?_)
    clear hst; intro a hst
    refine wpList_nil ?_
    refine then_n ?_
    refine wp_block ?_
    have hst := (((hst.keep (ds := [2, 3, 30, 31, 32, 7, 65, 66, 67]) (.cons rfl (.cons rfl (.cons rfl (.cons rfl (.cons rfl (.cons rfl (.cons rfl (.cons rfl (.cons rfl (.nil))))))))))).drop (.cons_cons _ (.cons _ (.cons_cons _ (.cons_cons _ (.slnil))))))).newFact (Mono.and (Mono.and (Mono.and (Sl.mono _ _ _) (Sl.mono _ _ _)) (Mono.and (Sl.mono _ _ _) (Sl.mono _ _ _))) (Mono.and (Sl.mono kC _ _) (Sl.mono kC _ _))) ⟨hst.fact.1, hst.fact.2.2.1⟩
    refine wp_loop_ghost (InvSame2 _ _ N _ l c _ l' c' B j d B' j' d' ts us ps qs i C1 e1 f1 C2 e2 f2 s2 (.slice A2 l2 c2) x2 y2 t.cons u.cons g1 g2 g4) (e1) ⟨_, 0, hst, by omega, by omega, rfl, by omega⟩ ?_
    clear hst
    rintro mz a w ⟨U, q, hst, hj0, hj1, htk2, rfl⟩
    refine wp_seq ?_
    refine wp_region_lit ?_
    refine l_op rfl (r_bin hst rfl rfl rfl rfl rfl ?_)
    clear hst; intro a hst
    refine wpList_nil ?_
    refine then_n ?_
    refine wp_seq ?_
    refine x_cond hst rfl (fun hc7 => ?_) (fun hc7 => ?_)
    · try simp only [n1, n2, n3, n4, n5, n6, n7, n8, n9, na, nb] at hc7
      refine wp_skip ?_
      refine then_n ?_
      refine wp_seq ?_
      refine wp_block ?_
      refine wp_seq ?_
      obtain ⟨g3, o3, cs3, t3, rfl, ht3, ⟨s3, v3, x3, y3, rfl, hs3, hv3⟩, hel3⟩ := hst.fact.2.1.at_ q.toNat (by omega)
      obtain ⟨g4', o4, cs4, t4, rfl, ht4, ⟨s4, v4, x4, y4, rfl, hs4, hv4⟩, hel4⟩ := hst.fact.2.2.at_ q.toNat (by omega)
      obtain ⟨A3, l3, c3, rfl⟩ := hv3.slice
      obtain ⟨A4, l4, c4, rfl⟩ := hv4.slice
      have hst := hst.newFact (Mono.and (Mono.and (Mono.and (Mono.and (Sl.mono _ _ _) (Sl.mono _ _ _)) (Mono.and (Sl.mono _ _ _) (Sl.mono _ _ _))) (Mono.and (Sl.mono kC _ _) (Sl.mono kC _ _))) (Mono.and (Mono.and (Sl.mono kT _ _) (Sl.mono kT _ _)) (Mono.and (Eat.mono _ _ _) (Eat.mono _ _ _)))) ⟨hst.fact, ⟨hv3, hv4⟩, hel3, hel4⟩
      refine wp_region_lit ?_
      refine l_op rfl (r_move hst rfl rfl ?_)
      clear hst; intro a hst
      refine l_op rfl (r_indexAddr hst rfl rfl Tu40 Tsz65 (hj0) (by omega) rfl ?_)
      clear hst; intro a hst
      refine l_op rfl (r_eata hst rfl Ta65 (hst.fact.2.2.1) (j := 0) rfl (.cons rfl (.cons rfl (.cons rfl (.cons rfl (.nil))))) rfl rfl ?_)
      clear hst; intro a hst
      refine l_op rfl (r_alloc hst Tz65 rfl ?_)
      clear hst; intro a w g5 hst
      refine l_op rfl (r_assign hst rfl rfl ?_)
      clear hst; intro a hst
      refine l_op rfl (r_store hst rfl rfl rfl Tsz65 rfl (.head (.here (.here (.here (.here (.nil (Nat.zero_le _))))))) ?_)
      clear hst; intro w hst
      refine wpList_nil ?_
      refine then_n ?_
      refine wp_seq ?_
      refine x_drawf (by kernel_rfl) hst (.cons_cons _ (.cons_cons _ (.cons _ (.cons _ (.slnil))))) ?_
      clear hst; intro w hS hst
      refine f_take (i := 0) hS hst (.cons_cons _ (.cons_cons _ (.cons _ (.cons _ (.slnil))))) rfl rfl rfl rfl (by kernel_rfl) (by kernel_rfl) (by kernel_rfl) (fun _ _ _ h => h) (fun _ _ _ _ hst => q_fieldAddr hst rfl Tf65_0) ?_
      clear hst; intro a hst
      refine f_take (i := 1) hS hst (.cons_cons _ (.cons_cons _ (.cons _ (.cons _ (.slnil))))) rfl rfl rfl rfl (by kernel_rfl) (by kernel_rfl) (by kernel_rfl) (fun _ _ _ h => h) (fun _ _ _ _ hst => q_loads hst rfl Ts9 (.head _) rfl) ?_
      clear hst; intro a hst
      refine f_take (i := 2) hS hst (.cons_cons _ (.cons_cons _ (.cons _ (.cons _ (.slnil))))) rfl rfl rfl rfl (by kernel_rfl) (by kernel_rfl) (by kernel_rfl) (fun _ _ _ h => h) (fun _ _ _ _ hst => q_fieldAddr hst rfl Tf42_2) ?_
      clear hst; intro a hst
      refine f_take (i := 3) hS hst (.cons_cons _ (.cons_cons _ (.cons _ (.cons _ (.slnil))))) rfl rfl rfl rfl (by kernel_rfl) (by kernel_rfl) (by kernel_rfl) (fun _ _ _ h => h) (fun _ _ _ _ hst => q_loads hst rfl Ts40 (.tail _ (.head _)) rfl) ?_
      clear hst; intro a hst
      refine f_take (i := 4) hS hst (.cons_cons _ (.cons_cons _ (.cons _ (.cons _ (.slnil))))) rfl rfl rfl rfl (by kernel_rfl) (by kernel_rfl) (by kernel_rfl) (fun _ _ _ h => h) (fun _ _ _ _ hst => q_move hst rfl) ?_
      clear hst; intro a hst
      refine f_take (i := 5) hS hst (.cons_cons _ (.cons_cons _ (.cons _ (.cons _ (.slnil))))) rfl rfl rfl rfl (by kernel_rfl) (by kernel_rfl) (by kernel_rfl) (fun _ _ _ h => h) (fun _ _ _ _ hst => q_indexAddr hst rfl rfl Tu40 Tsz65 (hj0) (by omega)) ?_
      clear hst; intro a hst
      refine f_take (i := 6) hS hst (.cons_cons _ (.cons_cons _ (.cons _ (.cons _ (.slnil))))) rfl rfl rfl rfl (by kernel_rfl) (by kernel_rfl) (by kernel_rfl) (fun _ _ _ h => h) (fun _ _ _ _ hst => q_fieldAddr hst rfl Tf65_0) ?_
      clear hst; intro a hst
      refine f_take (i := 7) hS hst (.cons_cons _ (.cons_cons _ (.cons _ (.cons _ (.slnil))))) rfl rfl rfl rfl (by kernel_rfl) (by kernel_rfl) (by kernel_rfl) (fun _ _ _ h => h) (fun _ _ _ _ hst => q_eats hst rfl Ts9 (hst.fact.2.2.2) (j := 0) rfl rfl) ?_
      clear hst; intro a hst
      refine f_take (i := 8) hS hst (.cons_cons _ (.cons_cons _ (.cons _ (.cons _ (.slnil))))) rfl rfl rfl rfl (by kernel_rfl) (by kernel_rfl) (by kernel_rfl) (fun _ _ _ h => h) (fun _ _ _ _ hst => q_bin hst rfl rfl rfl rfl) ?_
      clear hst; intro a hst
      refine f_take (i := 9) hS hst (.cons_cons _ (.cons_cons _ (.cons _ (.cons _ (.slnil))))) rfl rfl rfl rfl (by kernel_rfl) (by kernel_rfl) (by kernel_rfl) (fun _ _ _ h => h) (fun _ _ _ _ hst => q_move hst rfl) ?_
      clear hst; intro a hst
      refine hst.split (t := 81) rfl (fun hc8 hst => ?_) (fun hc8 hst => ?_)
      · try simp only [n1, n2, n3, n4, n5, n6, n7, n8, n9, na, nb] at hc8
        refine f_skip (i := 10) hst (.cons_cons _ (.cons_cons _ (.cons _ (.cons _ (.slnil))))) rfl rfl rfl rfl (by decide) rfl rfl (by kernel_rfl) (by kernel_rfl) (by kernel_rfl) (fun _ _ _ h => h) ?_
        clear hst; intro a hst
        refine f_skip (i := 11) hst (.cons_cons _ (.cons_cons _ (.cons _ (.cons _ (.slnil))))) rfl rfl rfl rfl (by decide) rfl rfl (by kernel_rfl) (by kernel_rfl) (by kernel_rfl) (fun _ _ _ h => h) ?_
        clear hst; intro a hst
        refine f_skip (i := 12) hst (.cons_cons _ (.cons_cons _ (.cons _ (.cons _ (.slnil))))) rfl rfl rfl rfl (by decide) rfl rfl (by kernel_rfl) (by kernel_rfl) (by kernel_rfl) (fun _ _ _ h => h) ?_
        clear hst; intro a hst
        refine f_skip (i := 13) hst (.cons_cons _ (.cons_cons _ (.cons _ (.cons _ (.slnil))))) rfl rfl rfl rfl (by decide) rfl rfl (by kernel_rfl) (by kernel_rfl) (by kernel_rfl) (fun _ _ _ h => h) ?_
        clear hst; intro a hst
        refine f_skip (i := 14) hst (.cons_cons _ (.cons_cons _ (.cons _ (.cons _ (.slnil))))) rfl rfl rfl rfl (by decide) rfl rfl (by kernel_rfl) (by kernel_rfl) (by kernel_rfl) (fun _ _ _ h => h) ?_
        clear hst; intro a hst
        refine f_skip (i := 15) hst (.cons_cons _ (.cons_cons _ (.cons _ (.cons _ (.slnil))))) rfl rfl rfl rfl (by decide) rfl rfl (by kernel_rfl) (by kernel_rfl) (by kernel_rfl) (fun _ _ _ h => h) ?_
        clear hst; intro a hst
        refine f_skip (i := 16) hst (.cons_cons _ (.cons_cons _ (.cons _ (.cons _ (.slnil))))) rfl rfl rfl rfl (by decide) rfl rfl (by kernel_rfl) (by kernel_rfl) (by kernel_rfl) (fun _ _ _ h => h) ?_
        clear hst; intro a hst
        refine f_skip (i := 17) hst (.cons_cons _ (.cons_cons _ (.cons _ (.cons _ (.slnil))))) rfl rfl rfl rfl (by decide) rfl rfl (by kernel_rfl) (by kernel_rfl) (by kernel_rfl) (fun _ _ _ h => h) ?_
        clear hst; intro a hst
        refine f_skip (i := 18) hst (.cons_cons _ (.cons_cons _ (.cons _ (.cons _ (.slnil))))) rfl rfl rfl rfl (by decide) rfl rfl (by kernel_rfl) (by kernel_rfl) (by kernel_rfl) (fun _ _ _ h => h) ?_
        clear hst; intro a hst
        refine f_skip (i := 19) hst (.cons_cons _ (.cons_cons _ (.cons _ (.cons _ (.slnil))))) rfl rfl rfl rfl (by decide) rfl rfl (by kernel_rfl) (by kernel_rfl) (by kernel_rfl) (fun _ _ _ h => h) ?_
        clear hst; intro a hst
        refine f_take (i := 20) hS hst (.cons_cons _ (.cons_cons _ (.cons _ (.cons _ (.slnil))))) rfl rfl rfl rfl (by kernel_rfl) (by kernel_rfl) (by kernel_rfl) (fun _ _ _ h => h) (fun _ _ _ _ hst => q_pick hst rfl rfl) ?_
        clear hst; intro a hst
        refine f_done (by kernel_rfl) ?_
        have hst := hS.back hst
        refine then_n ?_
        refine x_cond_t hst rfl ?_
        refine wp_seq ?_
        refine wp_region_lit ?_
        refine l_op rfl (r_assign hst rfl rfl ?_)
        clear hst; intro a hst
        refine wpList_nil ?_
        refine then_n ?_
        refine wp_ret ?_
        refine inb_r ?_
        refine then_r ?_
        refine then_r ?_
        refine inb_r ?_
        refine inb_r ?_
        refine then_r ?_
        refine then_r ?_
        refine inb_r ?_
        refine then_r ?_
        refine x_ret (rs := [.tmp 4]) hst rfl (.tmp rfl (.nil)) ?_
        exact ⟨_, rfl, ⟨fun h => absurd h (by decide), fun h => absurd h.1 (eq_ne ht hu (fun e => eq_ne ht3 ht4 (fun e3 => by subst e3; grind) (congrArg DaT.cons e)))⟩⟩
      try simp only [n1, n2, n3, n4, n5, n6, n7, n8, n9, na, nb] at hc8
      refine f_takeg (i := 10) hS hst (.cons_cons _ (.cons_cons _ (.cons _ (.cons _ (.slnil))))) rfl rfl rfl rfl rfl rfl (by kernel_rfl) (by kernel_rfl) (by kernel_rfl) (fun _ _ _ h => h) (fun _ _ _ _ hst => q_fieldAddr hst rfl Tf65_1) ?_
      clear hst; intro a hst
      refine f_takeg (i := 11) hS hst (.cons_cons _ (.cons_cons _ (.cons _ (.cons _ (.slnil))))) rfl rfl rfl rfl rfl rfl (by kernel_rfl) (by kernel_rfl) (by kernel_rfl) (fun _ _ _ h => h) (fun _ _ _ _ hst => q_loads hst rfl Ts63 (.head _) rfl) ?_
      clear hst; intro a hst
      refine f_takeg (i := 12) hS hst (.cons_cons _ (.cons_cons _ (.cons _ (.cons _ (.slnil))))) rfl rfl rfl rfl rfl rfl (by kernel_rfl) (by kernel_rfl) (by kernel_rfl) (fun _ _ _ h => h) (fun _ _ _ _ hst => q_fieldAddr hst rfl Tf42_2) ?_
      clear hst; intro a hst
      refine f_takeg (i := 13) hS hst (.cons_cons _ (.cons_cons _ (.cons _ (.cons _ (.slnil))))) rfl rfl rfl rfl rfl rfl (by kernel_rfl) (by kernel_rfl) (by kernel_rfl) (fun _ _ _ h => h) (fun _ _ _ _ hst => q_loads hst rfl Ts40 (.tail _ (.head _)) rfl) ?_
      clear hst; intro a hst
      refine f_takeg (i := 14) hS hst (.cons_cons _ (.cons_cons _ (.cons _ (.cons _ (.slnil))))) rfl rfl rfl rfl rfl rfl (by kernel_rfl) (by kernel_rfl) (by kernel_rfl) (fun _ _ _ h => h) (fun _ _ _ _ hst => q_move hst rfl) ?_
      clear hst; intro a hst
      refine f_takeg (i := 15) hS hst (.cons_cons _ (.cons_cons _ (.cons _ (.cons _ (.slnil))))) rfl rfl rfl rfl rfl rfl (by kernel_rfl) (by kernel_rfl) (by kernel_rfl) (fun _ _ _ h => h) (fun _ _ _ _ hst => q_indexAddr hst rfl rfl Tu40 Tsz65 (hj0) (by omega)) ?_
      clear hst; intro a hst
      refine f_takeg (i := 16) hS hst (.cons_cons _ (.cons_cons _ (.cons _ (.cons _ (.slnil))))) rfl rfl rfl rfl rfl rfl (by kernel_rfl) (by kernel_rfl) (by kernel_rfl) (fun _ _ _ h => h) (fun _ _ _ _ hst => q_fieldAddr hst rfl Tf65_1) ?_
      clear hst; intro a hst
      refine f_takeg (i := 17) hS hst (.cons_cons _ (.cons_cons _ (.cons _ (.cons _ (.slnil))))) rfl rfl rfl rfl rfl rfl (by kernel_rfl) (by kernel_rfl) (by kernel_rfl) (fun _ _ _ h => h) (fun _ _ _ _ hst => q_eats hst rfl Ts63 (hst.fact.2.2.2) (j := 1) rfl rfl) ?_
      clear hst; intro a hst
      refine f_oneg (i := 18) hst (by kernel_rfl) rfl rfl rfl rfl (r_call (xs := [(Operand.tmp 83), (Operand.tmp 89)]) hst rfl Ten27 (sametypes_c _ _ hst.fact.2.2.1.1 hst.fact.2.2.1.2 (fun t u _ _ => same46 t u)) rfl ?_)
      clear hst; rintro a _ w U ⟨by_, rfl, hby⟩ hst
      refine ⟨hst.kept (.cons_cons _ (.cons_cons _ (.cons _ (.cons _ (.slnil))))), ?_⟩
      refine f_takeg (i := 19) hS hst (.cons_cons _ (.cons_cons _ (.cons _ (.cons _ (.slnil))))) rfl rfl rfl rfl rfl rfl (by kernel_rfl) (by kernel_rfl) (by kernel_rfl) (fun _ _ _ h => h) (fun _ _ _ _ hst => q_not hst rfl) ?_
      clear hst; intro a hst
      refine f_take (i := 20) hS hst (.cons_cons _ (.cons_cons _ (.cons _ (.cons _ (.slnil))))) rfl rfl rfl rfl (by kernel_rfl) (by kernel_rfl) (by kernel_rfl) (fun _ _ _ h => h) (fun _ _ _ _ hst => q_pick hst rfl rfl) ?_
      clear hst; intro a hst
      refine f_done (by kernel_rfl) ?_
      have hst := hS.back hst
      refine then_n ?_
      refine x_cond hst rfl (fun hc9 => ?_) (fun hc9 => ?_)
      · try simp only [n1, n2, n3, n4, n5, n6, n7, n8, n9, na, nb] at hc9
        refine wp_seq ?_
        refine wp_region_lit ?_
        refine l_op rfl (r_assign hst rfl rfl ?_)
        clear hst; intro a hst
        refine wpList_nil ?_
        refine then_n ?_
        refine wp_ret ?_
        refine inb_r ?_
        refine then_r ?_
        refine then_r ?_
        refine inb_r ?_
        refine inb_r ?_
        refine then_r ?_
        refine then_r ?_
        refine inb_r ?_
        refine then_r ?_
        refine x_ret (rs := [.tmp 4]) hst rfl (.tmp rfl (.nil)) ?_
        exact ⟨_, rfl, ⟨fun h => absurd h (by decide), fun h => absurd h.1 (eq_ne ht hu (fun e => eq_ne ht3 ht4 (fun e3 => by subst e3; grind) (congrArg DaT.cons e)))⟩⟩
      try simp only [n1, n2, n3, n4, n5, n6, n7, n8, n9, na, nb] at hc9
      refine wp_skip ?_
      refine inb_n ?_
      refine then_n ?_
      refine wp_region_lit ?_
      refine l_op rfl (r_bin hst rfl rfl rfl rfl rfl ?_)
      clear hst; intro a hst
      rw [wrap_in _ (by omega) (by omega)] at hst
      refine l_op rfl (r_move hst rfl rfl ?_)
      clear hst; intro a hst
      refine wpList_nil ?_
      have hst := (((hst.keep (ds := [2, 3, 30, 31, 32, 7, 65, 66, 67]) (.cons rfl (.cons rfl (.cons rfl (.cons rfl (.cons rfl (.cons rfl (.cons rfl (.cons rfl (.cons rfl (.nil))))))))))).drop (.cons _ (.cons_cons _ (.cons_cons _ (.cons_cons _ (.slnil))))))).setFact (Mono.and (Mono.and (Mono.and (Sl.mono _ _ _) (Sl.mono _ _ _)) (Mono.and (Sl.mono _ _ _) (Sl.mono _ _ _))) (Mono.and (Sl.mono _ _ _) (Sl.mono _ _ _))) (fun h => h.1)
      exact then_k ⟨_, by omega, _, _, hst, by omega, by omega, eq_next htk2 hj0 ht3 ht4 (CoT.same (by grind) (by grind)), rfl⟩
    try simp only [n1, n2, n3, n4, n5, n6, n7, n8, n9, na, nb] at hc7
    refine wp_exit ?_
    refine then_x ?_
    refine then_x ?_
    refine inb_hit ?_
    refine inb_n ?_
    refine then_n ?_
    refine wp_region_lit ?_
    refine l_op rfl (r_bin hst rfl rfl rfl rfl rfl ?_)
    clear hst; intro a hst
    rw [wrap_in _ (by omega) (by omega)] at hst
    refine l_op rfl (r_move hst rfl rfl ?_)
    clear hst; intro a hst
    refine wpList_nil ?_
    have hcs : t.cons = u.cons := eq_all htk2 hk1.1 (hk2.1.trans (by omega)) (by omega)
    have hst := (((hst.keep (ds := [2, 3, 30, 31, 32]) (.cons rfl (.cons rfl (.cons rfl (.cons rfl (.cons rfl (.nil))))))).drop (.cons _ (.cons_cons _ (.cons_cons _ (.slnil)))))).setFact (Mono.and (Mono.and (Sl.mono _ _ _) (Sl.mono _ _ _)) (Mono.and (Sl.mono _ _ _) (Sl.mono _ _ _))) (fun h => h.1)
    exact then_k ⟨_, by omega, _, _, hst, by omega, by omega, eq_next htk hi0 ht hu (DaT.same (by grind) (by grind) hcs), rfl⟩
  try simp only [n1, n2, n3, n4, n5, n6, n7, n8, n9, na, nb] at hc3
  refine wp_exit ?_
  refine then_x ?_
  refine then_x ?_
  refine inb_hit ?_
  refine then_n ?_
  refine wp_seq ?_
  refine wp_seq ?_
  have hts := eq_all htk hl1.1 (hl2.1.trans (by omega)) (by omega)
  refine wp_region_lit ?_
  refine l_op rfl (r_fieldAddr hst rfl Tf26_1 rfl ?_)
  clear hst; intro a hst
  refine l_op rfl (r_loads hst rfl Ts24 (.tail _ (.head _)) rfl rfl ?_)
  clear hst; intro a hst
  refine l_op rfl (r_lensl hst rfl Tu24 rfl ?_)
  clear hst; intro a hst
  refine l_op rfl (r_move hst rfl rfl ?_)
  clear hst; intro a hst
  refine wpList_nil ?_
  refine then_n ?_
  refine wp_block ?_
  have hst := ((hst.keep (ds := [3, 96, 97, 98]) (.cons rfl (.cons rfl (.cons rfl (.cons rfl (.nil)))))).drop (.cons_cons _ (.cons _ (.slnil))))
  refine wp_loop_ghost (InvSame3 _ _ N A l c A' l' c' B j d B' j' d' ts us ps qs g2) (j) ⟨_, 0, hst, by omega, by omega, rfl, by omega⟩ ?_
  clear hst
  rintro mz a w ⟨U, r, hst, hr0, hr1, htk3, rfl⟩
  refine wp_seq ?_
  refine wp_region_lit ?_
  refine l_op rfl (r_bin hst rfl rfl rfl rfl rfl ?_)
  clear hst; intro a hst
  refine wpList_nil ?_
  refine then_n ?_
  refine wp_seq ?_
  refine x_cond hst rfl (fun hc10 => ?_) (fun hc10 => ?_)
  · try simp only [n1, n2, n3, n4, n5, n6, n7, n8, n9, na, nb] at hc10
    refine wp_skip ?_
    refine then_n ?_
    refine wp_seq ?_
    refine wp_block ?_
    refine wp_seq ?_
    obtain ⟨g, o, cs, t, rfl, ht, ⟨s1, v1, u1, bs, x1, y1, rfl, hs1, hv1, hu1, hb1, _⟩, hel⟩ := hst.fact.2.1.at_ r.toNat (by omega)
    obtain ⟨g', o', ds, u, rfl, hu, ⟨s2, v2, u2, bs', x2, y2, rfl, hs2, hv2, hu2, hb2, _⟩, hel'⟩ := hst.fact.2.2.at_ r.toNat (by omega)
    obtain ⟨A1, l1, c1, rfl⟩ := hv1.slice
    obtain ⟨A2, l2, c2, rfl⟩ := hv2.slice
    obtain ⟨C1, e1, f1, rfl⟩ := hu1.slice
    obtain ⟨C2, e2, f2, rfl⟩ := hu2.slice
    obtain ⟨k, z, m, v3, p, q, zs, rfl, htb, h3⟩ := hb1.open_
    obtain ⟨k', z', m', v3', p', q', zs', rfl, hub, h3'⟩ := hb2.open_
    obtain ⟨D1, a1, b1, rfl⟩ := h3.slice
    obtain ⟨D2, a2, b2, rfl⟩ := h3'.slice
    have hst := hst.newFact (Mono.and (Mono.and (Mono.and (Sl.mono _ _ _) (Sl.mono _ _ _)) (Mono.and (Sl.mono _ _ _) (Sl.mono _ _ _))) (Mono.and (Mono.and (Sl.mono kE _ _) (Sl.mono kE _ _)) (Mono.and (Mono.and (Sl.mono kE _ _) (Sl.mono kE _ _)) (Mono.and (Mono.and (ERep.mono _ _) (ERep.mono _ _)) (Mono.and (Eat.mono _ _ _) (Eat.mono _ _ _)))))) ⟨hst.fact, ⟨hv1, hv2⟩, ⟨hu1, hu2⟩, ⟨hb1, hb2⟩, hel, hel'⟩
    refine wp_region_lit ?_
    refine l_op rfl (r_move hst rfl rfl ?_)
    clear hst; intro a hst
    refine l_op rfl (r_indexAddr hst rfl rfl Tu24 Tsz60 (hr0) (by omega) rfl ?_)
    clear hst; intro a hst
    refine l_op rfl (r_eata hst rfl Ta60 (hst.fact.2.2.2.2.1) (j := 0) rfl (.cons rfl (.cons rfl (.cons rfl (.cons rfl (.cons rfl (.cons rfl (.cons rfl (.cons rfl (.cons rfl (.cons rfl (.cons rfl (.nil)))))))))))) rfl rfl ?_)
    clear hst; intro a hst
    refine l_op rfl (r_alloc hst Tz60 rfl ?_)
    clear hst; intro a w g3 hst
    refine l_op rfl (r_assign hst rfl rfl ?_)
    clear hst; intro a hst
    refine l_op rfl (r_store hst rfl rfl rfl Tsz60 rfl (.head (.here (.here (.here (.here (.here (.here (.here (.here (.here (.here (.here (.nil (Nat.zero_le _)))))))))))))) ?_)
    clear hst; intro w hst
    refine wpList_nil ?_
    refine then_n ?_
    refine wp_seq ?_
    refine wp_region_lit ?_
    refine l_op rfl (r_fieldAddr hst rfl Tf26_1 rfl ?_)
    clear hst; intro a hst
    refine l_op rfl (r_loads hst rfl Ts24 (.tail _ (.head _)) rfl rfl ?_)
    clear hst; intro a hst
    refine l_op rfl (r_move hst rfl rfl ?_)
    clear hst; intro a hst
    refine l_op rfl (r_indexAddr hst rfl rfl Tu24 Tsz60 (hr0) (by omega) rfl ?_)
    clear hst; intro a hst
    refine l_op rfl (r_eata hst rfl Ta60 (hst.fact.2.2.2.2.2) (j := 0) rfl (.cons rfl (.cons rfl (.cons rfl (.cons rfl (.cons rfl (.cons rfl (.cons rfl (.cons rfl (.cons rfl (.cons rfl (.cons rfl (.nil)))))))))))) rfl rfl ?_)
    clear hst; intro a hst
    refine l_op rfl (r_alloc hst Tz60 rfl ?_)
    clear hst; intro a w g4 hst
    refine l_op rfl (r_store hst rfl rfl rfl Tsz60 rfl (.head (.here (.here (.here (.here (.here (.here (.here (.here (.here (.here (.here (.nil (Nat.zero_le _)))))))))))))) ?_)
    clear hst; intro w hst
    refine wpList_nil ?_
    refine then_n ?_
    refine wp_seq ?_
    refine wp_region_lit ?_
    refine l_op rfl (r_fieldAddr hst rfl Tf60_0 rfl ?_)
    clear hst; intro a hst
    refine l_op rfl (r_loads hst rfl Ts9 (.tail _ (.head _)) rfl rfl ?_)
    clear hst; intro a hst
    refine l_op rfl (r_fieldAddr hst rfl Tf60_0 rfl ?_)
    clear hst; intro a hst
    refine l_op rfl (r_loads hst rfl Ts9 (.head _) rfl rfl ?_)
    clear hst; intro a hst
    refine l_op rfl (r_bin hst rfl rfl rfl rfl rfl ?_)
    clear hst; intro a hst
    refine l_op rfl (r_move hst rfl rfl ?_)
    clear hst; intro a hst
    refine hst.split (t := 113) rfl (fun hc11 hst => ?_) (fun hc11 hst => ?_)
    · try simp only [n1, n2, n3, n4, n5, n6, n7, n8, n9, na, nb] at hc11
      refine l_off hst rfl rfl rfl (by decide) rfl rfl ?_
      clear hst; intro a hst
      refine l_off hst rfl rfl rfl (by decide) rfl rfl ?_
      clear hst; intro a hst
      refine l_off hst rfl rfl rfl (by decide) rfl rfl ?_
      clear hst; intro a hst
      refine l_off hst rfl rfl rfl (by decide) rfl rfl ?_
      clear hst; intro a hst
      refine l_off hst rfl rfl rfl (by decide) rfl rfl ?_
      clear hst; intro a hst
      refine l_off hst rfl rfl rfl (by decide) rfl rfl ?_
      clear hst; intro a hst
      refine l_op rfl (r_pick hst rfl rfl rfl ?_)
      clear hst; intro a hst
      refine l_op rfl (r_move hst rfl rfl ?_)
      clear hst; intro a hst
      refine l_off hst rfl rfl rfl (by decide) rfl rfl ?_
      clear hst; intro a hst
      refine l_off hst rfl rfl rfl (by decide) rfl rfl ?_
      clear hst; intro a hst
      refine l_off hst rfl rfl rfl (by decide) rfl rfl ?_
      clear hst; intro a hst
      refine l_off hst rfl rfl rfl (by decide) rfl rfl ?_
      clear hst; intro a hst
      refine l_off hst rfl rfl rfl (by decide) rfl rfl ?_
      clear hst; intro a hst
      refine l_off hst rfl rfl rfl (by decide) rfl rfl ?_
      clear hst; intro a hst
      refine l_op rfl (r_pick hst rfl rfl rfl ?_)
      clear hst; intro a hst
      refine l_op rfl (r_move hst rfl rfl ?_)
      clear hst; intro a hst
      refine l_off hst rfl rfl rfl (by decide) rfl rfl ?_
      clear hst; intro a hst
      refine l_off hst rfl rfl rfl (by decide) rfl rfl ?_
      clear hst; intro a hst
      refine l_off hst rfl rfl rfl (by decide) rfl rfl ?_
      clear hst; intro a hst
      refine l_off hst rfl rfl rfl (by decide) rfl rfl ?_
      clear hst; intro a hst
      refine l_off hst rfl rfl rfl (by decide) rfl rfl ?_
      clear hst; intro a hst
      refine l_off hst rfl rfl rfl (by decide) rfl rfl ?_
      clear hst; intro a hst
      refine l_op rfl (r_pick hst rfl rfl rfl ?_)
      clear hst; intro a hst
      refine wpList_nil ?_
      refine then_n ?_
      refine x_cond_t hst rfl ?_
      refine wp_seq ?_
      refine wp_region_lit ?_
      refine l_op rfl (r_assign hst rfl rfl ?_)
      clear hst; intro a hst
      refine wpList_nil ?_
      refine then_n ?_
      refine wp_ret ?_
      refine inb_r ?_
      refine then_r ?_
      refine then_r ?_
      refine inb_r ?_
      refine then_r ?_
      refine x_ret (rs := [.tmp 4]) hst rfl (.tmp rfl (.nil)) ?_
      exact ⟨_, rfl, ⟨fun h => absurd h (by decide), fun h => absurd h.2 (eq_ne ht hu (fun e => by subst e; grind))⟩⟩
    try simp only [n1, n2, n3, n4, n5, n6, n7, n8, n9, na, nb] at hc11
    refine l_on hst rfl rfl rfl (r_fieldAddr hst rfl Tf60_1 rfl ?_)
    clear hst; intro a hst
    refine l_on hst rfl rfl rfl (r_loads hst rfl Ts56 (.tail _ (.head _)) rfl rfl ?_)
    clear hst; intro a hst
    refine l_on hst rfl rfl rfl (r_fieldAddr hst rfl Tf60_1 rfl ?_)
    clear hst; intro a hst
    refine l_on hst rfl rfl rfl (r_loads hst rfl Ts56 (.head _) rfl rfl ?_)
    clear hst; intro a hst
    refine l_on hst rfl rfl rfl (r_call (xs := [(Operand.tmp 115), (Operand.tmp 117)]) hst rfl Ten28 (exprs_c _ _ hst.fact.2.1.1 hst.fact.2.1.2 (fun t u _ _ => same29 t u)) rfl ?_)
    clear hst; rintro a _ w U ⟨ba, rfl, hba⟩ hst
    refine l_on hst rfl rfl rfl (r_not hst rfl rfl ?_)
    clear hst; intro a hst
    refine l_op rfl (r_pick hst rfl rfl rfl ?_)
    clear hst; intro a hst
    refine l_op rfl (r_move hst rfl rfl ?_)
    clear hst; intro a hst
    refine hst.split (t := 121) rfl (fun hc12 hst => ?_) (fun hc12 hst => ?_)
    · try simp only [n1, n2, n3, n4, n5, n6, n7, n8, n9, na, nb] at hc12
      refine l_off hst rfl rfl rfl (by decide) rfl rfl ?_
      clear hst; intro a hst
      refine l_off hst rfl rfl rfl (by decide) rfl rfl ?_
      clear hst; intro a hst
      refine l_off hst rfl rfl rfl (by decide) rfl rfl ?_
      clear hst; intro a hst
      refine l_off hst rfl rfl rfl (by decide) rfl rfl ?_
      clear hst; intro a hst
      refine l_off hst rfl rfl rfl (by decide) rfl rfl ?_
      clear hst; intro a hst
      refine l_off hst rfl rfl rfl (by decide) rfl rfl ?_
      clear hst; intro a hst
      refine l_op rfl (r_pick hst rfl rfl rfl ?_)
      clear hst; intro a hst
      refine l_op rfl (r_move hst rfl rfl ?_)
      clear hst; intro a hst
      refine l_off hst rfl rfl rfl (by decide) rfl rfl ?_
      clear hst; intro a hst
      refine l_off hst rfl rfl rfl (by decide) rfl rfl ?_
      clear hst; intro a hst
      refine l_off hst rfl rfl rfl (by decide) rfl rfl ?_
      clear hst; intro a hst
      refine l_off hst rfl rfl rfl (by decide) rfl rfl ?_
      clear hst; intro a hst
      refine l_off hst rfl rfl rfl (by decide) rfl rfl ?_
      clear hst; intro a hst
      refine l_off hst rfl rfl rfl (by decide) rfl rfl ?_
      clear hst; intro a hst
      refine l_op rfl (r_pick hst rfl rfl rfl ?_)
      clear hst; intro a hst
      refine wpList_nil ?_
      refine then_n ?_
      refine x_cond_t hst rfl ?_
      refine wp_seq ?_
      refine wp_region_lit ?_
      refine l_op rfl (r_assign hst rfl rfl ?_)
      clear hst; intro a hst
      refine wpList_nil ?_
      refine then_n ?_
      refine wp_ret ?_
      refine inb_r ?_
      refine then_r ?_
      refine then_r ?_
      refine inb_r ?_
      refine then_r ?_
      refine x_ret (rs := [.tmp 4]) hst rfl (.tmp rfl (.nil)) ?_
      exact ⟨_, rfl, ⟨fun h => absurd h (by decide), fun h => absurd h.2 (eq_ne ht hu (fun e => by subst e; grind))⟩⟩
    try simp only [n1, n2, n3, n4, n5, n6, n7, n8, n9, na, nb] at hc12
    refine l_on hst rfl rfl rfl (r_fieldAddr hst rfl Tf60_2 rfl ?_)
    clear hst; intro a hst
    refine l_on hst rfl rfl rfl (r_loads hst rfl Ts56 (.tail _ (.head _)) rfl rfl ?_)
    clear hst; intro a hst
    refine l_on hst rfl rfl rfl (r_fieldAddr hst rfl Tf60_2 rfl ?_)
    clear hst; intro a hst
    refine l_on hst rfl rfl rfl (r_loads hst rfl Ts56 (.head _) rfl rfl ?_)
    clear hst; intro a hst
    refine l_on hst rfl rfl rfl (r_call (xs := [(Operand.tmp 123), (Operand.tmp 125)]) hst rfl Ten28 (exprs_c _ _ hst.fact.2.2.1.1 hst.fact.2.2.1.2 (fun t u _ _ => same29 t u)) rfl ?_)
    clear hst; rintro a _ w U ⟨bb, rfl, hbb⟩ hst
    refine l_on hst rfl rfl rfl (r_not hst rfl rfl ?_)
    clear hst; intro a hst
    refine l_op rfl (r_pick hst rfl rfl rfl ?_)
    clear hst; intro a hst
    refine l_op rfl (r_move hst rfl rfl ?_)
    clear hst; intro a hst
    refine hst.split (t := 129) rfl (fun hc13 hst => ?_) (fun hc13 hst => ?_)
    · try simp only [n1, n2, n3, n4, n5, n6, n7, n8, n9, na, nb] at hc13
      refine l_off hst rfl rfl rfl (by decide) rfl rfl ?_
      clear hst; intro a hst
      refine l_off hst rfl rfl rfl (by decide) rfl rfl ?_
      clear hst; intro a hst
      refine l_off hst rfl rfl rfl (by decide) rfl rfl ?_
      clear hst; intro a hst
      refine l_off hst rfl rfl rfl (by decide) rfl rfl ?_
      clear hst; intro a hst
      refine l_off hst rfl rfl rfl (by decide) rfl rfl ?_
      clear hst; intro a hst
      refine l_off hst rfl rfl rfl (by decide) rfl rfl ?_
      clear hst; intro a hst
      refine l_op rfl (r_pick hst rfl rfl rfl ?_)
      clear hst; intro a hst
      refine wpList_nil ?_
      refine then_n ?_
      refine x_cond_t hst rfl ?_
      refine wp_seq ?_
      refine wp_region_lit ?_
      refine l_op rfl (r_assign hst rfl rfl ?_)
      clear hst; intro a hst
      refine wpList_nil ?_
      refine then_n ?_
      refine wp_ret ?_
      refine inb_r ?_
      refine then_r ?_
      refine then_r ?_
      refine inb_r ?_
      refine then_r ?_
      refine x_ret (rs := [.tmp 4]) hst rfl (.tmp rfl (.nil)) ?_
      exact ⟨_, rfl, ⟨fun h => absurd h (by decide), fun h => absurd h.2 (eq_ne ht hu (fun e => by subst e; grind))⟩⟩
    try simp only [n1, n2, n3, n4, n5, n6, n7, n8, n9, na, nb] at hc13
    refine l_on hst rfl rfl rfl (r_fieldAddr hst rfl Tf60_3 rfl ?_)
    clear hst; intro a hst
    refine l_on hst rfl rfl rfl (r_loada hst rfl Ta58 (.tail _ (.head _)) (.cons rfl (.cons rfl (.cons rfl (.cons rfl (.cons rfl (.cons rfl (.nil))))))) rfl rfl ?_)
    clear hst; intro a hst
    refine l_on hst rfl rfl rfl (r_fieldAddr hst rfl Tf60_3 rfl ?_)
    clear hst; intro a hst
    refine l_on hst rfl rfl rfl (r_loada hst rfl Ta58 (.head _) (.cons rfl (.cons rfl (.cons rfl (.cons rfl (.cons rfl (.cons rfl (.nil))))))) rfl rfl ?_)
    clear hst; intro a hst
    refine l_on hst rfl rfl rfl (r_call (xs := [(Operand.tmp 131), (Operand.tmp 133), (Operand.const (Value.bool false))]) hst rfl Ten29 (same29 _ _ _ _ _ _ hst.fact.2.2.2.1.1 hst.fact.2.2.2.1.2) rfl ?_)
    clear hst; rintro a _ w U ⟨bc, rfl, hbc⟩ hst
    refine l_on hst rfl rfl rfl (r_not hst rfl rfl ?_)
    clear hst; intro a hst
    refine l_op rfl (r_pick hst rfl rfl rfl ?_)
    clear hst; intro a hst
    refine wpList_nil ?_
    refine then_n ?_
    refine x_cond hst rfl (fun hc14 => ?_) (fun hc14 => ?_)
    · try simp only [n1, n2, n3, n4, n5, n6, n7, n8, n9, na, nb] at hc14
      refine wp_seq ?_
      refine wp_region_lit ?_
      refine l_op rfl (r_assign hst rfl rfl ?_)
      clear hst; intro a hst
      refine wpList_nil ?_
      refine then_n ?_
      refine wp_ret ?_
      refine inb_r ?_
      refine then_r ?_
      refine then_r ?_
      refine inb_r ?_
      refine then_r ?_
      refine x_ret (rs := [.tmp 4]) hst rfl (.tmp rfl (.nil)) ?_
      exact ⟨_, rfl, ⟨fun h => absurd h (by decide), fun h => absurd h.2 (eq_ne ht hu (fun e => by subst e; grind))⟩⟩
    try simp only [n1, n2, n3, n4, n5, n6, n7, n8, n9, na, nb] at hc14
    refine wp_skip ?_
    refine inb_n ?_
    refine then_n ?_
    refine wp_region_lit ?_
    refine l_op rfl (r_bin hst rfl rfl rfl rfl rfl ?_)
    clear hst; intro a hst
    rw [wrap_in _ (by omega) (by omega)] at hst
    refine l_op rfl (r_move hst rfl rfl ?_)
    clear hst; intro a hst
    refine wpList_nil ?_
    have hst := (((hst.keep (ds := [3, 96, 97, 98]) (.cons rfl (.cons rfl (.cons rfl (.cons rfl (.nil)))))).drop (.cons _ (.cons _ (.cons_cons _ (.slnil)))))).setFact (Mono.and (Mono.and (Sl.mono _ _ _) (Sl.mono _ _ _)) (Mono.and (Sl.mono _ _ _) (Sl.mono _ _ _))) (fun h => h.1)
    exact then_k ⟨_, by omega, _, _, hst, by omega, by omega, eq_next htk3 hr0 ht hu (RuT.same (by grind) (by grind) (by grind) (by grind)), rfl⟩
  try simp only [n1, n2, n3, n4, n5, n6, n7, n8, n9, na, nb] at hc10
  refine wp_exit ?_
  refine then_x ?_
  refine then_x ?_
  refine inb_hit ?_
  refine then_n ?_
  refine wp_seq ?_
  refine wp_region_lit ?_
  refine l_op rfl (r_assign hst rfl rfl ?_)
  clear hst; intro a hst
  refine wpList_nil ?_
  refine then_n ?_
  refine wp_ret ?_
  refine x_ret (rs := [.tmp 4]) hst rfl (.tmp rfl (.nil)) ?_
  exact ⟨_, rfl, ⟨fun _ => ⟨hts, eq_all htk3 hl3.1 (hl4.1.trans (by omega)) (by omega)⟩, fun _ => rfl⟩⟩
end Go.Proofs.YtjnjkbmegfkiiaaGreat
