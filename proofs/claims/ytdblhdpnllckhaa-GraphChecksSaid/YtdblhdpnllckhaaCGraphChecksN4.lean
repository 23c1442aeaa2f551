/- The evaluator of the program's form, its soundness, the functions of the given program as it evaluates them, and laws on these. Conditions: as each theorem says. -/
import Derived.Test.YtdblhdpnllckhaaCGraphChecksN3
import Derived.Test.YtdblhdpnllckhaaRows
import Derived.Test.YtdblhdpnllckhaaCGraphChecksN2
import Derived.WalkKit
import Derived.ProofKit
import Derived.OpenShut
import Derived.ShutString
import Derived.ChangeOld
import Derived.Below
import Derived.SizedLaws
section
set_option linter.unusedVariables false
set_option linter.unusedSimpArgs false
set_option maxRecDepth 20000
namespace Go.Proofs.Ytdblhdpnllckhaa.AE
open Go

theorem EqTexts_l (a b : List ByteArray) (hl : a.length = b.length) (ha : a.length ≤ 140737488351232) : ∀ d i : Nat, i + d = a.length → V.slices_Equal_stringstring.l11010 a b (i : Int) = some (decide (a.drop i = b.drop i))
  | 0, i, h => by
    refine V.slices_Equal_stringstring.l11010.of _ _ _ ?_
    unfold F.slices_Equal_stringstring.l11010.B
    rw [if_out (by omega), List.drop_eq_nil_of_le (by omega), List.drop_eq_nil_of_le (by omega)]
    simp
  | d + 1, i, h => by
    refine V.slices_Equal_stringstring.l11010.of _ _ _ ?_
    unfold F.slices_Equal_stringstring.l11010.B
    have h1 : i < a.length := by omega
    have h2 : i < b.length := by omega
    rw [if_in h1, guard_in h1, guard_in h2, nat_cast, w64_up h1 ha, EqTexts_l a b hl ha d (i + 1) (by omega), rd_get (e := .str) h1, rd_get (e := .str) h2, strEq_dec, drop_eq h1 h2]
    by_cases hq : a[i] = b[i] <;> simp [hq]
theorem EqTexts_ok (a b : List ByteArray) (ha : a.length ≤ 140737488351232) : V.slices_Equal_stringstring a b = some (decide (a = b)) := by
  refine V.slices_Equal_stringstring.of _ _ ?_
  unfold F.slices_Equal_stringstring.B
  by_cases hl : a.length = b.length
  · have := EqTexts_l a b hl ha a.length 0 (by omega)
    rw [show (0 : Int) = ((0 : Nat) : Int) from rfl, this, hl]
    simp
  · rw [show ((a.length : Int) != (b.length : Int)) = true by simp; omega, cond_true]
    simp only [Option.some.injEq]
    symm
    simp only [decide_eq_false_iff_not]
    intro h; rw [h] at hl; exact hl rfl
theorem EqProps_l (a b : List TProp) (hl : a.length = b.length) (ha : a.length ≤ 140737488351232) : ∀ d i : Nat, i + d = a.length → V.slices_Equal_apiPropapiProp.l11010 a b (i : Int) = some (decide (a.drop i = b.drop i))
  | 0, i, h => by
    refine V.slices_Equal_apiPropapiProp.l11010.of _ _ _ ?_
    unfold F.slices_Equal_apiPropapiProp.l11010.B
    rw [if_out (by omega), List.drop_eq_nil_of_le (by omega), List.drop_eq_nil_of_le (by omega)]
    simp
  | d + 1, i, h => by
    refine V.slices_Equal_apiPropapiProp.l11010.of _ _ _ ?_
    unfold F.slices_Equal_apiPropapiProp.l11010.B
    have h1 : i < a.length := by omega
    have h2 : i < b.length := by omega
    rw [if_in h1, guard_in h1, guard_in h2, nat_cast, w64_up h1 ha, EqProps_l a b hl ha d (i + 1) (by omega), prop_eq, rd_get (e := sProp) h1, rd_get (e := sProp) h2, drop_eq h1 h2]
    by_cases hq : a[i] = b[i] <;> simp [hq]
theorem EqProps_ok (a b : List TProp) (ha : a.length ≤ 140737488351232) : V.slices_Equal_apiPropapiProp a b = some (decide (a = b)) := by
  refine V.slices_Equal_apiPropapiProp.of _ _ ?_
  unfold F.slices_Equal_apiPropapiProp.B
  by_cases hl : a.length = b.length
  · have := EqProps_l a b hl ha a.length 0 (by omega)
    rw [show (0 : Int) = ((0 : Nat) : Int) from rfl, this, hl]
    simp
  · rw [show ((a.length : Int) != (b.length : Int)) = true by simp; omega, cond_true]
    simp only [Option.some.injEq]
    symm
    simp only [decide_eq_false_iff_not]
    intro h; rw [h] at hl; exact hl rfl
theorem EqNode_ok (a b : TNode) (h1 : a.2.1.length ≤ 140737488351232) (h2 : a.2.2.length ≤ 140737488351232) : V.graph_Same_1 a b = some (decide (a = b)) := by
  refine V.graph_Same_1.of _ _ ?_
  unfold F.graph_Same_1.B
  obtain ⟨i, x, y⟩ := a
  obtain ⟨i', x', y'⟩ := b
  rw [EqTexts_ok _ _ h1, EqProps_ok _ _ h2, strEq_dec]
  simp only [Prod.mk.injEq, Option.bind_some]
  by_cases e1 : i = i' <;> by_cases e2 : x = x' <;> by_cases e3 : y = y' <;> simp [e1, e2, e3]
theorem EqEdge_ok (a b : TEdge) (h1 : a.2.2.2.1.length ≤ 140737488351232) (h2 : a.2.2.2.2.length ≤ 140737488351232) : V.graph_Same_2 a b = some (decide (a = b)) := by
  refine V.graph_Same_2.of _ _ ?_
  unfold F.graph_Same_2.B
  obtain ⟨i, f, t, x, y⟩ := a
  obtain ⟨i', f', t', x', y'⟩ := b
  rw [EqTexts_ok _ _ h1, EqProps_ok _ _ h2, strEq_dec, strEq_dec, strEq_dec]
  simp only [Prod.mk.injEq, Option.bind_some]
  by_cases e1 : i = i' <;> by_cases e4 : f = f' <;> by_cases e5 : t = t' <;> by_cases e2 : x = x' <;> by_cases e3 : y = y' <;> simp [e1, e2, e3, e4, e5]
theorem EqNodes_l (a b : List TNode) (hl : a.length = b.length) (ha : a.length ≤ 140737488351232) (hf : ∀ x ∈ a, x.2.1.length ≤ 140737488351232 ∧ x.2.2.length ≤ 140737488351232) : ∀ d i : Nat, i + d = a.length → V.slices_EqualFunc_apiNodeapiNodeapiNodeapi_by_graph_Same_1.l11010 a b (i : Int) = some (decide (a.drop i = b.drop i))
  | 0, i, h => by
    refine V.slices_EqualFunc_apiNodeapiNodeapiNodeapi_by_graph_Same_1.l11010.of _ _ _ ?_
    unfold F.slices_EqualFunc_apiNodeapiNodeapiNodeapi_by_graph_Same_1.l11010.B
    rw [if_out (by omega), List.drop_eq_nil_of_le (by omega), List.drop_eq_nil_of_le (by omega)]
    simp
  | d + 1, i, h => by
    refine V.slices_EqualFunc_apiNodeapiNodeapiNodeapi_by_graph_Same_1.l11010.of _ _ _ ?_
    unfold F.slices_EqualFunc_apiNodeapiNodeapiNodeapi_by_graph_Same_1.l11010.B
    have h1 : i < a.length := by omega
    have h2 : i < b.length := by omega
    have he := hf _ (rd_mem (e := sNode) h1)
    rw [if_in h1, guard_in h1, guard_in h2, nat_cast, w64_up h1 ha, EqNodes_l a b hl ha hf d (i + 1) (by omega), EqNode_ok _ _ he.1 he.2, Option.bind_some, rd_get (e := sNode) h1, rd_get (e := sNode) h2, drop_eq h1 h2]
    by_cases hq : a[i] = b[i] <;> simp [hq]
theorem EqNodes_ok (a b : List TNode) (ha : a.length ≤ 140737488351232) (hf : ∀ x ∈ a, x.2.1.length ≤ 140737488351232 ∧ x.2.2.length ≤ 140737488351232) : V.slices_EqualFunc_apiNodeapiNodeapiNodeapi_by_graph_Same_1 a b = some (decide (a = b)) := by
  refine V.slices_EqualFunc_apiNodeapiNodeapiNodeapi_by_graph_Same_1.of _ _ ?_
  unfold F.slices_EqualFunc_apiNodeapiNodeapiNodeapi_by_graph_Same_1.B
  by_cases hl : a.length = b.length
  · have := EqNodes_l a b hl ha hf a.length 0 (by omega)
    rw [show (0 : Int) = ((0 : Nat) : Int) from rfl, this, hl]
    simp
  · rw [show ((a.length : Int) != (b.length : Int)) = true by simp; omega, cond_true]
    simp only [Option.some.injEq]
    symm
    simp only [decide_eq_false_iff_not]
    intro h; rw [h] at hl; exact hl rfl
theorem EqEdges_l (a b : List TEdge) (hl : a.length = b.length) (ha : a.length ≤ 140737488351232) (hf : ∀ x ∈ a, x.2.2.2.1.length ≤ 140737488351232 ∧ x.2.2.2.2.length ≤ 140737488351232) : ∀ d i : Nat, i + d = a.length → V.slices_EqualFunc_apiEdgeapiEdgeapiEdgeapi_by_graph_Same_2.l11010 a b (i : Int) = some (decide (a.drop i = b.drop i))
  | 0, i, h => by
    refine V.slices_EqualFunc_apiEdgeapiEdgeapiEdgeapi_by_graph_Same_2.l11010.of _ _ _ ?_
    unfold F.slices_EqualFunc_apiEdgeapiEdgeapiEdgeapi_by_graph_Same_2.l11010.B
    rw [if_out (by omega), List.drop_eq_nil_of_le (by omega), List.drop_eq_nil_of_le (by omega)]
    simp
  | d + 1, i, h => by
    refine V.slices_EqualFunc_apiEdgeapiEdgeapiEdgeapi_by_graph_Same_2.l11010.of _ _ _ ?_
    unfold F.slices_EqualFunc_apiEdgeapiEdgeapiEdgeapi_by_graph_Same_2.l11010.B
    have h1 : i < a.length := by omega
    have h2 : i < b.length := by omega
    have he := hf _ (rd_mem (e := sEdge) h1)
    rw [if_in h1, guard_in h1, guard_in h2, nat_cast, w64_up h1 ha, EqEdges_l a b hl ha hf d (i + 1) (by omega), EqEdge_ok _ _ he.1 he.2, Option.bind_some, rd_get (e := sEdge) h1, rd_get (e := sEdge) h2, drop_eq h1 h2]
    by_cases hq : a[i] = b[i] <;> simp [hq]
theorem EqEdges_ok (a b : List TEdge) (ha : a.length ≤ 140737488351232) (hf : ∀ x ∈ a, x.2.2.2.1.length ≤ 140737488351232 ∧ x.2.2.2.2.length ≤ 140737488351232) : V.slices_EqualFunc_apiEdgeapiEdgeapiEdgeapi_by_graph_Same_2 a b = some (decide (a = b)) := by
  refine V.slices_EqualFunc_apiEdgeapiEdgeapiEdgeapi_by_graph_Same_2.of _ _ ?_
  unfold F.slices_EqualFunc_apiEdgeapiEdgeapiEdgeapi_by_graph_Same_2.B
  by_cases hl : a.length = b.length
  · have := EqEdges_l a b hl ha hf a.length 0 (by omega)
    rw [show (0 : Int) = ((0 : Nat) : Int) from rfl, this, hl]
    simp
  · rw [show ((a.length : Int) != (b.length : Int)) = true by simp; omega, cond_true]
    simp only [Option.some.injEq]
    symm
    simp only [decide_eq_false_iff_not]
    intro h; rw [h] at hl; exact hl rfl
theorem graphSame_ok (a b : TGraph) (hf : Fits a) : V.graph_Same a b = some (decide (a = b)) := by
  refine V.graph_Same.of _ _ ?_
  unfold F.graph_Same.B
  rw [EqNodes_ok _ _ hf.ns hf.n, EqEdges_ok _ _ hf.es hf.e, Option.bind_some, Option.bind_some]
  obtain ⟨x, y⟩ := a
  obtain ⟨x', y'⟩ := b
  by_cases h1 : x = x' <;> by_cases h2 : y = y' <;> simp [h1, h2]

/-! ### Copies -/

theorem clone_body {α : Type} (l : List α) (h : l.length ≤ nmax) : (bif l.isEmpty then meet (some ([])) (guardK (decide (0 + l.length ≤ nmax)) (some ([] ++ l))) else (guardK (decide (0 + l.length ≤ nmax)) (some ([] ++ l)))) = some l := by
  rw [guard_dec (by omega)]
  cases l with
  | nil => exact meet_self _
  | cons a l => rfl
theorem cloneN_ok (l : List TNode) (h : l.length ≤ nmax) : V.slices_Clone_apiNodeapiNode l = some l := V.slices_Clone_apiNodeapiNode.of l (clone_body l h)
theorem cloneE_ok (l : List TEdge) (h : l.length ≤ nmax) : V.slices_Clone_apiEdgeapiEdge l = some l := V.slices_Clone_apiEdgeapiEdge.of l (clone_body l h)
theorem cloneT_ok (l : List ByteArray) (h : l.length ≤ nmax) : V.slices_Clone_stringstring l = some l := V.slices_Clone_stringstring.of l (clone_body l h)
theorem cloneP_ok (l : List TProp) (h : l.length ≤ nmax) : V.slices_Clone_apiPropapiProp l = some l := V.slices_Clone_apiPropapiProp.of l (clone_body l h)

theorem set_rd {e : Sh} (l : List (den e)) (i : Nat) : l.set i (rd e l i) = l := by
  rcases Nat.lt_or_ge i l.length with h | h
  · rw [rd_get h, List.set_getElem_self]
  · exact List.set_eq_of_length_le h

/-- Few enough parts for copies. -/
structure Small (g : TGraph) : Prop where
  ns : g.1.length ≤ nmax
  es : g.2.length ≤ nmax
  n : ∀ n ∈ g.1, n.2.1.length ≤ nmax ∧ n.2.2.length ≤ nmax
  e : ∀ x ∈ g.2, x.2.2.2.1.length ≤ nmax ∧ x.2.2.2.2.length ≤ nmax

theorem Copy_l1 (a g : TGraph) (hs : Small g) (n : Int) : ∀ d i : Nat, i + d = g.2.length → V.graph_Copy.l111010 a (g.2.length : Int) (i : Int) g.1 g.2 = some g
  | 0, i, h => by
    refine V.graph_Copy.l111010.of _ _ _ _ _ ?_
    unfold F.graph_Copy.l111010.B
    rw [if_out (by omega)]
  | d + 1, i, h => by
    have hi : i < g.2.length := by omega
    have he := hs.e _ (rd_mem (e := sEdge) hi)
    have hb : g.2.length ≤ 140737488351232 := by have := hs.es; unfold nmax at this; omega
    refine V.graph_Copy.l111010.of _ _ _ _ _ ?_
    unfold F.graph_Copy.l111010.B
    rw [if_in hi, guard_in hi, nat_cast, meet_self, meet_self, cloneT_ok _ he.1, cloneP_ok _ he.2, Option.bind_some, Option.bind_some]
    show V.graph_Copy.j1110100111 a _ _ _ ((g.2.set i (rd sEdge g.2 i)).set i ((rd sEdge (g.2.set i (rd sEdge g.2 i)) i).1, (rd sEdge (g.2.set i (rd sEdge g.2 i)) i).2.1, (rd sEdge (g.2.set i (rd sEdge g.2 i)) i).2.2.1, (rd sEdge (g.2.set i (rd sEdge g.2 i)) i).2.2.2.1, (rd sEdge g.2 i).2.2.2.2)) = _
    rw [set_rd (e := sEdge)]
    show V.graph_Copy.j1110100111 a _ _ _ (g.2.set i (rd sEdge g.2 i)) = _
    rw [set_rd (e := sEdge)]
    refine V.graph_Copy.j1110100111.of _ _ _ _ _ ?_
    unfold F.graph_Copy.j1110100111.B
    rw [w64_up hi hb]
    exact Copy_l1 a g hs n d (i + 1) (by omega)
theorem Copy_l0 (a g : TGraph) (hs : Small g) : ∀ d i : Nat, i + d = g.1.length → V.graph_Copy.l11010 a (g.1.length : Int) (i : Int) g.1 g.2 = some g
  | 0, i, h => by
    refine V.graph_Copy.l11010.of _ _ _ _ _ ?_
    unfold F.graph_Copy.l11010.B
    rw [if_out (by omega)]
    exact Copy_l1 a g hs 0 g.2.length 0 (by omega)
  | d + 1, i, h => by
    have hi : i < g.1.length := by omega
    have he := hs.n _ (rd_mem (e := sNode) hi)
    have hb : g.1.length ≤ 140737488351232 := by have := hs.ns; unfold nmax at this; omega
    refine V.graph_Copy.l11010.of _ _ _ _ _ ?_
    unfold F.graph_Copy.l11010.B
    rw [if_in hi, guard_in hi, nat_cast, meet_self, meet_self, cloneT_ok _ he.1, cloneP_ok _ he.2, Option.bind_some, Option.bind_some]
    show V.graph_Copy.j110100111 a _ _ ((g.1.set i (rd sNode g.1 i)).set i ((rd sNode (g.1.set i (rd sNode g.1 i)) i).1, (rd sNode (g.1.set i (rd sNode g.1 i)) i).2.1, (rd sNode g.1 i).2.2)) _ = _
    rw [set_rd (e := sNode)]
    show V.graph_Copy.j110100111 a _ _ (g.1.set i (rd sNode g.1 i)) _ = _
    rw [set_rd (e := sNode)]
    refine V.graph_Copy.j110100111.of _ _ _ _ _ ?_
    unfold F.graph_Copy.j110100111.B
    rw [w64_up hi hb]
    exact Copy_l0 a g hs d (i + 1) (by omega)
theorem Copy_ok (g : TGraph) (hs : Small g) : V.graph_Copy g = some g := by
  refine V.graph_Copy.of _ ?_
  unfold F.graph_Copy.B
  rw [cloneN_ok _ hs.ns, cloneE_ok _ hs.es, Option.bind_some, Option.bind_some, meet_self, Option.bind_some, Option.bind_some, meet_self]
  refine V.graph_Copy.j11.of _ _ _ ?_
  unfold F.graph_Copy.j11.B
  exact Copy_l0 g g hs g.1.length 0 (by omega)

end Go.Proofs.Ytdblhdpnllckhaa.AE
end
section
set_option linter.unusedVariables false
set_option linter.unusedSimpArgs false
set_option maxRecDepth 20000
namespace Go.Proofs.Ytdblhdpnllckhaa.AE
open Go

abbrev gZ : TGraph := ([], [])
abbrev oA : TOp := (3, (⟨#[120]⟩ : ByteArray), (⟨#[97]⟩ : ByteArray), (⟨#[98]⟩ : ByteArray), (⟨#[]⟩ : ByteArray), 0, 0, (⟨#[]⟩ : ByteArray))

theorem up_nil : Up [] := List.Pairwise.nil
theorem okZ : okGraph gZ := ⟨by simp, by simp, by simp, by simp⟩
theorem smallZ : Small gZ := ⟨by simp, by simp, by simp, by simp⟩

theorem right_A : V.graph_Right oA = some 0 := by
  have n1 : V.name_Check (⟨#[120]⟩ : ByteArray) = some 0 := by rw [name_Check_ok _ (by decide +kernel)]; decide +kernel
  have n2 : V.name_Check (⟨#[97]⟩ : ByteArray) = some 0 := by rw [name_Check_ok _ (by decide +kernel)]; decide +kernel
  have n3 : V.name_Check (⟨#[98]⟩ : ByteArray) = some 0 := by rw [name_Check_ok _ (by decide +kernel)]; decide +kernel
  refine V.graph_Right.of _ ?_
  unfold F.graph_Right.B
  show (V.name_Check (⟨#[120]⟩ : ByteArray)).bind _ = _
  rw [n1, Option.bind_some]
  show V.graph_Right.j1110101 oA false = _
  refine V.graph_Right.j1110101.of _ _ ?_
  unfold F.graph_Right.j1110101.B
  show ((V.name_Check (⟨#[97]⟩ : ByteArray)).bind fun t1 => (bif (t1 == 0) then ((V.name_Check (⟨#[98]⟩ : ByteArray)).bind fun t2 => V.graph_Right.j1111 oA (t2 == 0)) else _)) = _
  rw [n2, n3]
  show V.graph_Right.j1111 oA true = _
  refine V.graph_Right.j1111.of _ _ ?_
  unfold F.graph_Right.j1111.B
  show V.graph_Right.j11111 oA = _
  exact V.graph_Right.j11111.of _ rfl

theorem comes_A : V.graph_change_comes gZ oA = some (9, gZ) := by
  have e := fun x => edge_ok gZ x up_nil (by simp)
  have n := fun x => node_ok gZ x up_nil (by simp)
  refine V.graph_change_comes.of _ _ ?_
  unfold F.graph_change_comes.B
  show ((V.graph_edge gZ _).bind fun t3 => ((V.graph_node gZ _).bind fun t4 => ((V.graph_node gZ _).bind fun t5 => _))) = _
  rw [e, n, n]
  rfl

theorem do_A : V.graph_change_do gZ oA = some (9, gZ) := by
  refine V.graph_change_do.of _ _ ?_
  unfold F.graph_change_do.B
  show (V.graph_Right oA).bind _ = _
  rw [right_A, Option.bind_some]
  show (V.graph_change_comes gZ oA).bind _ = _
  rw [comes_A]
  rfl

theorem awake26 : V.pleachlaw26_awake = some true := by
  have h : V.graph_Apply gZ [oA] = some (gZ, 0, 9) := by
    refine V.graph_Apply.of _ _ ?_
    unfold F.graph_Apply.B
    show (V.graph_Check gZ).bind _ = _
    rw [Check_ok _ okZ, Option.bind_some]
    show (V.graph_Copy gZ).bind _ = _
    rw [Copy_ok _ smallZ, Option.bind_some]
    refine V.graph_Apply.l111010.of _ _ _ _ _ ?_
    unfold F.graph_Apply.l111010.B
    show (V.graph_change_do gZ oA).bind _ = _
    rw [do_A]
    rfl
  refine V.pleachlaw26_awake.of ?_
  unfold F.pleachlaw26_awake.B
  show (V.graph_Apply gZ [oA]).bind _ = _
  rw [h]
  rfl

end Go.Proofs.Ytdblhdpnllckhaa.AE
end
section
set_option linter.unusedVariables false
set_option linter.unusedSimpArgs false
namespace Go.Proofs.Ytdblhdpnllckhaa.AE
open Go

theorem gd_len {e : Sh} {l : List (den e)} (h : Gd (.list e) l) (hb : 2 ≤ e.bytes) : l.length ≤ 70368744177616 := by
  have h1 := h.1
  have : l.length * 2 ≤ l.length * e.bytes := Nat.mul_le_mul_left _ hb
  omega
theorem gd_texts {l : List ByteArray} (h : Gd (.list .str) l) : okTexts l := ⟨by have := gd_len h (by decide); omega, fun s hs => h.2 s hs⟩
theorem gd_props {l : List TProp} (h : Gd (.list sProp) l) : okProps l := ⟨by have := gd_len h (by decide); omega, fun p hp => by
  obtain ⟨h1, h2, h3, h4⟩ := h.2 p hp
  have h5 : -9223372036854775808 ≤ p.2.2.1 ∧ p.2.2.1 ≤ 9223372036854775807 := by
    have h6 : (decide (IntKind.min .i64 ≤ p.2.2.1) && decide (p.2.2.1 ≤ IntKind.max .i64)) = true := h3
    rw [Bool.and_eq_true, decide_eq_true_eq, decide_eq_true_eq, show IntKind.min .i64 = -9223372036854775808 by decide, show IntKind.max .i64 = 9223372036854775807 by decide] at h6
    exact h6
  exact ⟨h1, h4, h5⟩⟩
theorem gd_node {n : TNode} (h : Gd sNode n) : okNode n := ⟨h.1, gd_texts h.2.1, gd_props h.2.2⟩
theorem gd_edge {x : TEdge} (h : Gd sEdge x) : okEdge x := ⟨h.1, h.2.1, h.2.2.1, gd_texts h.2.2.2.1, gd_props h.2.2.2.2⟩
theorem gd_graph {g : TGraph} (h : Gd sGraph g) : okGraph g := ⟨gd_len h.1 (by decide), gd_len h.2 (by decide), fun n hn => gd_node (h.1.2 n hn), fun x hx => gd_edge (h.2.2 x hx)⟩

end Go.Proofs.Ytdblhdpnllckhaa.AE
end
section
set_option linter.unusedVariables false
set_option linter.unusedSimpArgs false
set_option maxRecDepth 20000
namespace Go.Proofs.Ytdblhdpnllckhaa.AE
open Go

theorem Slim.small {g : TGraph} (h : Slim g) : Small g := ⟨by have := h.ns; unfold nmax; omega, by have := h.es; unfold nmax; omega, fun n hn => by have := h.n n hn; unfold nmax; omega, fun n hn => by have := h.e n hn; unfold nmax; omega⟩
theorem Slim.fits {g : TGraph} (h : Slim g) : Fits g := ⟨by have := h.ns; omega, by have := h.es; omega, fun n hn => by have := h.n n hn; omega, fun n hn => by have := h.e n hn; omega⟩

theorem GraphChecks_pure (a b : TGraph) (ha : okGraph a) (hb : okGraph b) : V.pleachlaw26_GraphChecks a b = some true := by
  obtain ⟨p, h1, h2⟩ := Few_ok a
  obtain ⟨q, g1, g2⟩ := Few_ok b
  refine V.pleachlaw26_GraphChecks.of _ _ ?_
  unfold F.pleachlaw26_GraphChecks.B
  show ((V.pleachref26_Few a).bind fun t0 => (bif (!t0) then (V.pleachlaw26_awake.bind fun t1 => (some t1)) else ((V.pleachref26_Few b).bind fun t2 => (bif (!t2) then (V.pleachlaw26_awake.bind fun t3 => (some t3)) else ((V.graph_Check a).bind fun t4 => ((V.pleachref26_Wrong a).bind fun t5 => (bif (t4 == t5) then ((V.graph_Copy a).bind fun t6 => ((V.pleachref26_Same t6 a).bind fun t7 => (bif t7 then ((V.graph_Same a b).bind fun t8 => ((V.pleachref26_Same a b).bind fun t9 => (bif (t8 == t9) then ((V.graph_Same a a).bind fun t10 => (bif t10 then (V.pleachlaw26_awake.bind fun t11 => (some t11)) else (some false))) else (some false)))) else (some false)))) else (some false)))))))) = _
  rw [h1, g1, awake26]
  cases p with
  | false => rfl
  | true =>
    have s := h2 rfl
    cases q with
    | false => rfl
    | true =>
      rw [Check_ok a ha, Wrong_ok a ha, Copy_ok a s.small, graphSame_ok a b s.fits, Same_ok a b s.fits, graphSame_ok a a s.fits]
      simp only [Option.bind_some]
      rw [Same_ok a a s.fits]
      simp

end Go.Proofs.Ytdblhdpnllckhaa.AE
end
section
namespace Go.Proofs.Ytdblhdpnllckhaa.AE
open Go Go.ChangeShapes Go.WideShapes Go.ChangeAt Go.RowKit
theorem weights_each {H : Type} {P : Program} {p : Nat → Bool} {ts : List TypeId} {ds : List (DataW H)} (h : (DataW.weightsEach P ts ds).all p = true) {j : Nat} {t : TypeId} {d : DataW H} (ht : ts[j]? = some t) (hd : ds[j]? = some d) : ∀ n ∈ d.weights P t, p n = true :=
  fun n hn => List.all_eq_true.1 h _ (DataW.weights_mem_each ht hd n hn)
theorem own : ownKnob Try.prog.godebug = none := by kernel_rfl
theorem laidOut : laidOutB Try.prog = true := by kernel_rfl
theorem mix : Try.prog.follows .mixedOrders = true := by kernel_rfl
theorem numGoB : (Try.prog.funcs.all fun fn => !(fn.name == "runtime.NumGoroutine")) = true := by kernel_rfl
theorem num (f : FuncId) (fn : Func) (h : Try.prog.funcs[f]? = some fn) : (fn.name == "runtime.NumGoroutine") = false := by
  have := Array.all_eq_true_iff_forall_mem.1 numGoB fn (Array.mem_of_getElem? h)
  simpa using this
theorem extok : ExtOk Try.prog sg := .of (show extAll Try.prog sgT from
  ⟨.nothing rfl rfl,
  ⟨.nothing rfl rfl,
  ⟨.nothing rfl rfl,
  ⟨.nothing rfl rfl,
  ⟨.nothing rfl rfl,
  ⟨.nothing rfl rfl,
  ⟨.nothing rfl rfl,
  ⟨.nothing rfl rfl,
  ⟨.nothing rfl rfl,
  ⟨.nothing rfl rfl,
  ⟨.nothing rfl rfl,
  ⟨.nothing rfl rfl,
  ⟨.nothing rfl rfl,
  ⟨.nothing rfl rfl,
  ⟨.nothing rfl rfl,
  ⟨.nothing rfl rfl,
  ⟨.nothing rfl rfl,
  ⟨.nothing rfl rfl,
  ⟨.nothing rfl rfl,
  ⟨.nothing rfl rfl,
  ⟨.nothing rfl rfl,
  ⟨.nothing rfl rfl,
  ⟨.nothing rfl rfl,
  ⟨.nothing rfl rfl,
  ⟨.nothing rfl rfl,
  ⟨.nothing rfl rfl,
  ⟨.nothing rfl rfl,
  ⟨.nothing rfl rfl,
  ⟨.nothing rfl rfl,
  ⟨.nothing rfl rfl,
  ⟨.nothing rfl rfl,
  ⟨.nothing rfl rfl,
  ⟨.nothing rfl rfl,
  ⟨.nothing rfl rfl,
  ⟨.nothing rfl rfl,
  ⟨.nothing rfl rfl,
  ⟨.nothing rfl rfl,
  ⟨.nothing rfl rfl,
  ⟨.nothing rfl rfl,
  ⟨.nothing rfl rfl,
  ⟨.nothing rfl rfl,
  ⟨.nothing rfl rfl,
  ⟨.nothing rfl rfl,
  ⟨.nothing rfl rfl,
  ⟨.nothing rfl rfl,
  ⟨.nothing rfl rfl,
  ⟨.nothing rfl rfl,
  ⟨.nothing rfl rfl,
  ⟨.nothing rfl rfl,
  ⟨.nothing rfl rfl,
  ⟨.nothing rfl rfl,
  ⟨.nothing rfl rfl,
  ⟨.nothing rfl rfl,
  ⟨.nothing rfl rfl,
  ⟨.nothing rfl rfl,
  ⟨.nothing rfl rfl,
  ⟨.nothing rfl rfl,
  ⟨.nothing rfl rfl,
  ⟨.nothing rfl rfl,
  ⟨.nothing rfl rfl,
  ⟨.nothing rfl rfl,
  ⟨.nothing rfl rfl,
  ⟨.nothing rfl rfl,
  ⟨.nothing rfl rfl,
  ⟨.nothing rfl rfl,
  ⟨.nothing rfl rfl,
  ⟨.nothing rfl rfl,
  ⟨.nothing rfl rfl,
  ⟨.nothing rfl rfl,
  ⟨.nothing rfl rfl,
  ⟨.nothing rfl rfl,
  ⟨.nothing rfl rfl,
  ⟨.nothing rfl rfl,
  ⟨.nothing rfl rfl,
  ⟨.nothing rfl rfl,
  ⟨.nothing rfl rfl,
  ⟨.nothing rfl rfl,
  ⟨.nothing rfl rfl,
  ⟨.nothing rfl rfl,
  ⟨.nothing rfl rfl,
  ⟨.nothing rfl rfl,
  ⟨.nothing rfl rfl,
  ⟨.nothing rfl rfl,
  ⟨.nothing rfl rfl,
  ⟨.nothing rfl rfl,
  ⟨.nothing rfl rfl,
  ⟨.nothing rfl rfl,
  ⟨.nothing rfl rfl,
  ⟨.nothing rfl rfl,
  ⟨.nothing rfl rfl,
  ⟨.nothing rfl rfl,
  ⟨.nothing rfl rfl,
  ⟨.nothing rfl rfl,
  ⟨.nothing rfl rfl,
  ⟨.nothing rfl rfl,
  ⟨.nothing rfl rfl,
  ⟨.nothing rfl rfl,
  ⟨.nothing rfl rfl,
  ⟨.nothing rfl rfl,
  ⟨.nothing rfl rfl,
  ⟨.nothing rfl rfl,
  ⟨.nothing rfl rfl,
  ⟨.nothing rfl rfl,
  ⟨.nothing rfl rfl,
  ⟨.nothing rfl rfl,
  ⟨.nothing rfl rfl,
  ⟨.nothing rfl rfl,
  ⟨.nothing rfl rfl,
  ⟨.nothing rfl rfl,
  ⟨.nothing rfl rfl,
  ⟨.nothing rfl rfl,
  ⟨.nothing rfl rfl,
  ⟨.nothing rfl rfl,
  ⟨.nothing rfl rfl,
  ⟨.nothing rfl rfl,
  ⟨.nothing rfl rfl,
  ⟨.nothing rfl rfl,
  ⟨.nothing rfl rfl,
  ⟨.nothing rfl rfl,
  ⟨.nothing rfl rfl,
  ⟨.nothing rfl rfl,
  ⟨.nothing rfl rfl,
  ⟨.nothing rfl rfl,
  ⟨.nothing rfl rfl,
  ⟨.nothing rfl rfl,
  ⟨.nothing rfl rfl,
  ⟨.nothing rfl rfl,
  ⟨.nothing rfl rfl,
  ⟨.nothing rfl rfl,
  ⟨.nothing rfl rfl,
  ⟨.nothing rfl rfl,
  ⟨.nothing rfl rfl,
  ⟨.nothing rfl rfl,
  ⟨.nothing rfl rfl,
  ⟨.nothing rfl rfl,
  ⟨.nothing rfl rfl,
  ⟨.nothing rfl rfl,
  ⟨.nothing rfl rfl,
  ⟨.nothing rfl rfl,
  ⟨.nothing rfl rfl,
  ⟨.nothing rfl rfl,
  ⟨.nothing rfl rfl,
  ⟨.nothing rfl rfl,
  ⟨.nothing rfl rfl,
  ⟨.nothing rfl rfl,
  ⟨.nothing rfl rfl,
  ⟨.ofOp rfl rfl (opCompare_ok Try.func153 (by kernel_rfl) (by kernel_rfl) (by kernel_rfl) (by kernel_rfl)),
  ⟨.nothing rfl rfl,
  ⟨.nothing rfl rfl,
  ⟨.nothing rfl rfl,
  ⟨.nothing rfl rfl,
  ⟨.nothing rfl rfl,
  ⟨.nothing rfl rfl,
  ⟨.nothing rfl rfl,
  ⟨.nothing rfl rfl,
  ⟨.nothing rfl rfl,
  ⟨.nothing rfl rfl,
  ⟨.nothing rfl rfl,
  ⟨.nothing rfl rfl,
  ⟨.nothing rfl rfl,
  ⟨.nothing rfl rfl,
  ⟨.nothing rfl rfl,
  ⟨.nothing rfl rfl,
  ⟨.nothing rfl rfl,
  ⟨.nothing rfl rfl,
  ⟨.nothing rfl rfl,
  ⟨.nothing rfl rfl,
  ⟨.nothing rfl rfl,
  ⟨.nothing rfl rfl,
  ⟨.nothing rfl rfl,
  ⟨.nothing rfl rfl,
  ⟨.nothing rfl rfl,
  ⟨.nothing rfl rfl,
  ⟨.nothing rfl rfl,
  ⟨.nothing rfl rfl,
  ⟨.nothing rfl rfl,
  ⟨.nothing rfl rfl,
  ⟨.nothing rfl rfl,
  ⟨.nothing rfl rfl,
  ⟨.nothing rfl rfl,
  ⟨.nothing rfl rfl,
  ⟨.nothing rfl rfl,
  ⟨.nothing rfl rfl,
  ⟨.nothing rfl rfl,
  ⟨.nothing rfl rfl,
  ⟨.nothing rfl rfl,
  ⟨.nothing rfl rfl,
  ⟨.nothing rfl rfl,
  ⟨.nothing rfl rfl,
  ⟨.nothing rfl rfl,
  ⟨.nothing rfl rfl,
  ⟨.nothing rfl rfl,
  ⟨.nothing rfl rfl,
  ⟨.nothing rfl rfl,
  ⟨.nothing rfl rfl,
  ⟨.nothing rfl rfl,
  ⟨.nothing rfl rfl,
  ⟨.nothing rfl rfl,
  ⟨.nothing rfl rfl,
  ⟨.ofOp rfl rfl (opIndexByte_ok Try.func220 (by kernel_rfl) (by kernel_rfl) (by kernel_rfl) (by kernel_rfl)),
  ⟨.nothing rfl rfl,
  ⟨.nothing rfl rfl,
  ⟨.nothing rfl rfl,
  ⟨.nothing rfl rfl,
  ⟨.nothing rfl rfl,
  ⟨.nothing rfl rfl,
  ⟨.nothing rfl rfl,
  ⟨.nothing rfl rfl,
  ⟨.nothing rfl rfl,
  ⟨.nothing rfl rfl,
  trivial⟩⟩⟩⟩⟩⟩⟩⟩⟩⟩⟩⟩⟩⟩⟩⟩⟩⟩⟩⟩⟩⟩⟩⟩⟩⟩⟩⟩⟩⟩⟩⟩⟩⟩⟩⟩⟩⟩⟩⟩⟩⟩⟩⟩⟩⟩⟩⟩⟩⟩⟩⟩⟩⟩⟩⟩⟩⟩⟩⟩⟩⟩⟩⟩⟩⟩⟩⟩⟩⟩⟩⟩⟩⟩⟩⟩⟩⟩⟩⟩⟩⟩⟩⟩⟩⟩⟩⟩⟩⟩⟩⟩⟩⟩⟩⟩⟩⟩⟩⟩⟩⟩⟩⟩⟩⟩⟩⟩⟩⟩⟩⟩⟩⟩⟩⟩⟩⟩⟩⟩⟩⟩⟩⟩⟩⟩⟩⟩⟩⟩⟩⟩⟩⟩⟩⟩⟩⟩⟩⟩⟩⟩⟩⟩⟩⟩⟩⟩⟩⟩⟩⟩⟩⟩⟩⟩⟩⟩⟩⟩⟩⟩⟩⟩⟩⟩⟩⟩⟩⟩⟩⟩⟩⟩⟩⟩⟩⟩⟩⟩⟩⟩⟩⟩⟩⟩⟩⟩⟩⟩⟩⟩⟩⟩⟩⟩⟩⟩⟩⟩⟩⟩⟩⟩⟩⟩⟩⟩⟩⟩)
end Go.Proofs.Ytdblhdpnllckhaa.AE
end
section
namespace Go.Proofs.Ytdblhdpnllckhaa.AE.graphChecks
open Go Go.ChangeShapes Go.WideShapes Go.ChangeAt Go.RowKit
open Go.ChangeMaps (open_string shut_string)
set_option linter.unusedVariables false
def Pure : Prop := ∀ (x0 : den ((.prod (.list (.prod .str (.prod (.list .str) (.list (.prod .str (.prod (.int .i64) (.prod (.int .i64) .str))))))) (.list (.prod .str (.prod .str (.prod .str (.prod (.list .str) (.list (.prod .str (.prod (.int .i64) (.prod (.int .i64) .str)))))))))))) (x1 : den ((.prod (.list (.prod .str (.prod (.list .str) (.list (.prod .str (.prod (.int .i64) (.prod (.int .i64) .str))))))) (.list (.prod .str (.prod .str (.prod .str (.prod (.list .str) (.list (.prod .str (.prod (.int .i64) (.prod (.int .i64) .str)))))))))))), Gd ((.prod (.list (.prod .str (.prod (.list .str) (.list (.prod .str (.prod (.int .i64) (.prod (.int .i64) .str))))))) (.list (.prod .str (.prod .str (.prod .str (.prod (.list .str) (.list (.prod .str (.prod (.int .i64) (.prod (.int .i64) .str))))))))))) x0 → Gd ((.prod (.list (.prod .str (.prod (.list .str) (.list (.prod .str (.prod (.int .i64) (.prod (.int .i64) .str))))))) (.list (.prod .str (.prod .str (.prod .str (.prod (.list .str) (.list (.prod .str (.prod (.int .i64) (.prod (.int .i64) .str))))))))))) x1 → ∃ K, F.pleachlaw26_GraphChecks K x0 x1 = some true
set_option maxRecDepth 100000 in
theorem lifted (pure : Pure) (os : Os) (started : os.Started) (H : Type) (enc : TypeId × Value → H) :
    ReturnsInHanded {} Try.checked os 9 .any (Rows.graphChecksSpec.pre6 enc Try.prog Try.f9 Rows.graphChecksRow.domain false) (Rows.graphChecksSpec.post enc Try.prog Try.f9 false true false false) := by
  refine returnsInHanded_of_change_sized (C := Try.checked) own started (by kernel_rfl) Try.func9
    (ChangeSpec.witness6 (enc := enc) (C := Try.checked) false ⟨#[], #[.agg #[.slice none 0 0, .slice none 0 0], .agg #[.slice none 0 0, .slice none 0 0]], []⟩ 8 (by kernel_rfl) (by kernel_rfl) (by kernel_rfl) (by kernel_rfl)) ?_
  intro W base args ds gs before hval0 hW hcnd hsz0 _
  have hsz : (DataW.weightsEach Try.prog (Try.f9.params.toList ++ Rows.graphChecksSpec.plain.varTypes Try.prog) (ds ++ gs)).all (· ≤ reachBytes) = true := hsz0
  have hval : ∀ (j : Nat) t v, Try.f9.params[j]? = some t → args[j]? = some v → Value.okWide Try.prog W .any base t v := hval0
  have hW' := hW
  obtain ⟨p, q, hA0, hV, rfl, hfz, hnd⟩ := hW
  have hA : DataW.TrodAll enc Try.prog W 0 (fun _ => true) true Try.f9.params.toList args.toList ds p := hA0
  rw [Try.params9] at hA hval hsz
  obtain ⟨v0, vs0, d0, ds0, p0, q0, hargs, rfl, rfl, h0, r0⟩ := trodAll_cons hA
  obtain ⟨v1, vs1, d1, ds1, p1, q1, rfl, rfl, rfl, h1, r1⟩ := trodAll_cons r0
  obtain ⟨rfl, rfl, rfl⟩ := trodAll_nil r1
  obtain rfl : args = #[v0, v1] := by cases args; simp_all
  obtain ⟨rfl, rfl⟩ := trodVars_none hV
  have k0 := h0
  have lt0 : ∀ x ∈ p0, x.block < W.heap.size := by obtain ⟨m, hm⟩ := k0; exact DataW.trod_lt m _ _ _ hm
  obtain ⟨cs0, rfl, _⟩ := okWide_struct Try.underlying25 (hval 0 25 v0 rfl rfl)
  obtain ⟨fuel0, hf0⟩ := h0
  obtain ⟨x0, S0, G0⟩ := fitT_ok (O := OX NoX [] []) (fun b => own_none) 20 25 ((.prod (.list (.prod .str (.prod (.list .str) (.list (.prod .str (.prod (.int .i64) (.prod (.int .i64) .str))))))) (.list (.prod .str (.prod .str (.prod .str (.prod (.list .str) (.list (.prod .str (.prod (.int .i64) (.prod (.int .i64) .str))))))))))) (by kernel_rfl) fuel0 _ _ hf0 (fun m hm => by have hq := weights_each hsz (j := 0) (t := 25) rfl rfl m hm; exact of_decide_eq_true hq)
  have k1 := h1
  have lt1 : ∀ x ∈ p1, x.block < W.heap.size := by obtain ⟨m, hm⟩ := k1; exact DataW.trod_lt m _ _ _ hm
  obtain ⟨cs1, rfl, _⟩ := okWide_struct Try.underlying25 (hval 1 25 v1 rfl rfl)
  obtain ⟨fuel1, hf1⟩ := h1
  obtain ⟨x1, S1, G1⟩ := fitT_ok (O := OX NoX [] []) (fun b => own_none) 20 25 ((.prod (.list (.prod .str (.prod (.list .str) (.list (.prod .str (.prod (.int .i64) (.prod (.int .i64) .str))))))) (.list (.prod .str (.prod .str (.prod .str (.prod (.list .str) (.list (.prod .str (.prod (.int .i64) (.prod (.int .i64) .str))))))))))) (by kernel_rfl) fuel1 _ _ hf1 (fun m hm => by have hq := weights_each hsz (j := 1) (t := 25) rfl rfl m hm; exact of_decide_eq_true hq)
  obtain ⟨K, hk⟩ := pure x0 x1 G0 G1
  have ha : AV1sR (OX NoX [] []) W [] [.agg (inj ((.prod (.list (.prod .str (.prod (.list .str) (.list (.prod .str (.prod (.int .i64) (.prod (.int .i64) .str))))))) (.list (.prod .str (.prod .str (.prod .str (.prod (.list .str) (.list (.prod .str (.prod (.int .i64) (.prod (.int .i64) .str))))))))))) x0), .agg (inj ((.prod (.list (.prod .str (.prod (.list .str) (.list (.prod .str (.prod (.int .i64) (.prod (.int .i64) .str))))))) (.list (.prod .str (.prod .str (.prod .str (.prod (.list .str) (.list (.prod .str (.prod (.int .i64) (.prod (.int .i64) .str))))))))))) x1)] (#[.agg cs0, .agg cs1] : Array Value).toList := .cons (arg_agg S0) (.cons (arg_agg S1) ⟨rfl, by simp⟩)
  refine (law_calls (good Try.prog sg extok mix num K) (f := 9) (t := (true : Bool)) (b := true) hk rfl (fun O w ρ vals σ v h hv => bool_of h hv) ha).mono fun e W' ⟨he, hd⟩ => ?_
  have bel : Below W.heap.size W W' := hd
  subst he
  exact ⟨_, rfl, _, _, _, [], _, [], hW', trodAll_mk1 (shut_bool Try.underlying4 _), (trodAll_cons_mk (Below.trod laidOut (by kernel_rfl) (of_decide_eq_true (by kernel_rfl)) k0 bel lt0) (trodAll_cons_mk (Below.trod laidOut (by kernel_rfl) (of_decide_eq_true (by kernel_rfl)) k1 bel lt1) trodAll_mk0)), rfl, bel.frame _, fun h => by cases h⟩
theorem over (pure : Pure) : Rows.graphChecksRow.holds Try.pinned (OpenSpec.ofChange Rows.graphChecksSpec) :=
  OpenClaim.holds_of_wide 9 Try.f9 rfl rfl rfl rfl rfl rfl rfl ⟨rfl, rfl, rfl, rfl, rfl⟩ rfl rfl rfl rfl rfl (by kernel_rfl) Try.func9 (by kernel_rfl)
    (of_decide_eq_true (by kernel_rfl)) (by unfold Func.isWrapper; first | (rw [if_pos (by decide +kernel)]; kernel_rfl) | (rw [if_neg (by decide +kernel)]; exact ⟨rfl, rfl⟩))
    (fun os started H enc _ => lifted pure os started H enc)
theorem proved (pure : Pure) : Rows.GraphChecksSaid := over pure
end Go.Proofs.Ytdblhdpnllckhaa.AE.graphChecks
end
