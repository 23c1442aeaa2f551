/- The evaluator of the program's form, its soundness, the functions of the given program as it evaluates them, and laws on these. Conditions: as each theorem says. -/
import Derived.Test.YtdblhdpnllckhaaGreatCGraphFindsN3
import Derived.Test.YtdblhdpnllckhaaGreatCGraphFindsN2
import Derived.Test.YtdblhdpnllckhaaGreatRows
import Derived.WalkKit
import Derived.ProofKit
import Derived.OpenShut
import Derived.ShutString
import Derived.ChangeOld
import Derived.Below
import Derived.SizedLaws
section
set_option linter.unusedVariables false
set_option linter.unusedSimpArgs false
namespace Go.Proofs.YtdblhdpnllckhaaGreat.AE
open Go

instance decValue : DecidableEq TValue := instDecidableEqProd
instance decProp : DecidableEq TProp := instDecidableEqProd
instance decNode : DecidableEq TNode := instDecidableEqProd
instance decEdge1 : DecidableEq (ByteArray × TNode) := instDecidableEqProd
instance decEdge : DecidableEq TEdge := instDecidableEqProd
instance decGraph : DecidableEq TGraph := instDecidableEqProd
/-- Two rows from a place on. -/
theorem drop_eq {α : Type} [DecidableEq α] {a b : List α} {i : Nat} (ha : i < a.length) (hb : i < b.length) : decide (a.drop i = b.drop i) = (decide (a[i] = b[i]) && decide (a.drop (i + 1) = b.drop (i + 1))) := by
  rw [List.drop_eq_getElem_cons ha, List.drop_eq_getElem_cons hb]
  rw [Bool.eq_iff_iff]
  simp only [decide_eq_true_eq, Bool.and_eq_true, List.cons.injEq]
theorem prop_eq (p q : TProp) : ((strEq p.1 q.1) && ((((p.2).1 == (q.2).1) && ((((p.2).2).1 == ((q.2).2).1) && ((strEq ((p.2).2).2 ((q.2).2).2) && true))) && true)) = decide (p = q) := by
  obtain ⟨a, b, c, d⟩ := p
  obtain ⟨a', b', c', d'⟩ := q
  simp only [strEq_dec, Prod.mk.injEq, Bool.and_true]
  rw [Bool.eq_iff_iff]
  simp
theorem SameTexts_l (a b : List ByteArray) (hl : a.length = b.length) (ha : a.length ≤ 140737488351232) : ∀ d i : Nat, i + d = a.length → V.pleachref25_SameTexts.l11010 a b (i : Int) = some (decide (a.drop i = b.drop i))
  | 0, i, h => by
    refine V.pleachref25_SameTexts.l11010.of _ _ _ ?_
    unfold F.pleachref25_SameTexts.l11010.B
    rw [if_out (by omega), List.drop_eq_nil_of_le (by omega), List.drop_eq_nil_of_le (by omega)]
    simp
  | d + 1, i, h => by
    refine V.pleachref25_SameTexts.l11010.of _ _ _ ?_
    unfold F.pleachref25_SameTexts.l11010.B
    have h1 : i < a.length := by omega
    have h2 : i < b.length := by omega
    rw [if_in h1, guard_in h1, guard_in h2, nat_cast, w64_up h1 ha, SameTexts_l a b hl ha d (i + 1) (by omega), rd_get (e := .str) h1, rd_get (e := .str) h2, strEq_dec, drop_eq h1 h2]
    by_cases hq : a[i] = b[i] <;> simp [hq]
theorem SameTexts_ok (a b : List ByteArray) (ha : a.length ≤ 140737488351232) : V.pleachref25_SameTexts a b = some (decide (a = b)) := by
  refine V.pleachref25_SameTexts.of _ _ ?_
  unfold F.pleachref25_SameTexts.B
  by_cases hl : a.length = b.length
  · have := SameTexts_l a b hl ha a.length 0 (by omega)
    rw [show (0 : Int) = ((0 : Nat) : Int) from rfl, this, hl]
    simp
  · rw [show ((a.length : Int) != (b.length : Int)) = true by simp; omega, cond_true]
    simp only [Option.some.injEq]
    symm
    simp only [decide_eq_false_iff_not]
    intro h; rw [h] at hl; exact hl rfl
theorem SameProps_l (a b : List TProp) (hl : a.length = b.length) (ha : a.length ≤ 140737488351232) : ∀ d i : Nat, i + d = a.length → V.pleachref25_SameProps.l11010 a b (i : Int) = some (decide (a.drop i = b.drop i))
  | 0, i, h => by
    refine V.pleachref25_SameProps.l11010.of _ _ _ ?_
    unfold F.pleachref25_SameProps.l11010.B
    rw [if_out (by omega), List.drop_eq_nil_of_le (by omega), List.drop_eq_nil_of_le (by omega)]
    simp
  | d + 1, i, h => by
    refine V.pleachref25_SameProps.l11010.of _ _ _ ?_
    unfold F.pleachref25_SameProps.l11010.B
    have h1 : i < a.length := by omega
    have h2 : i < b.length := by omega
    rw [if_in h1, guard_in h1, guard_in h2, nat_cast, w64_up h1 ha, SameProps_l a b hl ha d (i + 1) (by omega), prop_eq, rd_get (e := sProp) h1, rd_get (e := sProp) h2, drop_eq h1 h2]
    by_cases hq : a[i] = b[i] <;> simp [hq]
theorem SameProps_ok (a b : List TProp) (ha : a.length ≤ 140737488351232) : V.pleachref25_SameProps a b = some (decide (a = b)) := by
  refine V.pleachref25_SameProps.of _ _ ?_
  unfold F.pleachref25_SameProps.B
  by_cases hl : a.length = b.length
  · have := SameProps_l a b hl ha a.length 0 (by omega)
    rw [show (0 : Int) = ((0 : Nat) : Int) from rfl, this, hl]
    simp
  · rw [show ((a.length : Int) != (b.length : Int)) = true by simp; omega, cond_true]
    simp only [Option.some.injEq]
    symm
    simp only [decide_eq_false_iff_not]
    intro h; rw [h] at hl; exact hl rfl
theorem SameNode_ok (a b : TNode) (h1 : a.2.1.length ≤ 140737488351232) (h2 : a.2.2.length ≤ 140737488351232) : V.pleachref25_SameNode a b = some (decide (a = b)) := by
  refine V.pleachref25_SameNode.of _ _ ?_
  unfold F.pleachref25_SameNode.B
  obtain ⟨i, x, y⟩ := a
  obtain ⟨i', x', y'⟩ := b
  rw [SameTexts_ok _ _ h1, SameProps_ok _ _ h2, strEq_dec]
  simp only [Prod.mk.injEq, Option.bind_some]
  by_cases e1 : i = i' <;> by_cases e2 : x = x' <;> by_cases e3 : y = y' <;> simp [e1, e2, e3]
theorem SameEdge_ok (a b : TEdge) (h1 : a.2.2.2.1.length ≤ 140737488351232) (h2 : a.2.2.2.2.length ≤ 140737488351232) : V.pleachref25_SameEdge a b = some (decide (a = b)) := by
  refine V.pleachref25_SameEdge.of _ _ ?_
  unfold F.pleachref25_SameEdge.B
  obtain ⟨i, f, t, x, y⟩ := a
  obtain ⟨i', f', t', x', y'⟩ := b
  rw [SameTexts_ok _ _ h1, SameProps_ok _ _ h2, strEq_dec, strEq_dec, strEq_dec]
  simp only [Prod.mk.injEq, Option.bind_some]
  by_cases e1 : i = i' <;> by_cases e4 : f = f' <;> by_cases e5 : t = t' <;> by_cases e2 : x = x' <;> by_cases e3 : y = y' <;> simp [e1, e2, e3, e4, e5]
/-- As many parts as fit. -/
structure Fits (g : TGraph) : Prop where
  ns : g.1.length ≤ 140737488351232
  es : g.2.length ≤ 140737488351232
  n : ∀ n ∈ g.1, n.2.1.length ≤ 140737488351232 ∧ n.2.2.length ≤ 140737488351232
  e : ∀ x ∈ g.2, x.2.2.2.1.length ≤ 140737488351232 ∧ x.2.2.2.2.length ≤ 140737488351232
theorem Same_l1 (a b : TGraph) (hf : Fits a) (hl : a.2.length = b.2.length) : ∀ d i : Nat, i + d = a.2.length → V.pleachref26_Same.l111010 a b (i : Int) = some (decide (a.2.drop i = b.2.drop i))
  | 0, i, h => by
    refine V.pleachref26_Same.l111010.of _ _ _ ?_
    unfold F.pleachref26_Same.l111010.B
    rw [if_out (by omega), List.drop_eq_nil_of_le (by omega), List.drop_eq_nil_of_le (by omega)]
    simp
  | d + 1, i, h => by
    refine V.pleachref26_Same.l111010.of _ _ _ ?_
    unfold F.pleachref26_Same.l111010.B
    have h1 : i < a.2.length := by omega
    have h2 : i < b.2.length := by omega
    have he := hf.e _ (rd_mem (e := sEdge) h1)
    rw [if_in h1, guard_in h1, guard_in h2, nat_cast, w64_up h1 hf.es, Same_l1 a b hf hl d (i + 1) (by omega), SameEdge_ok _ _ he.1 he.2, Option.bind_some]
    rw [rd_get (e := sEdge) h1, rd_get (e := sEdge) h2, drop_eq h1 h2]
    by_cases hq : a.2[i] = b.2[i] <;> simp [hq]
theorem Same_l0 (a b : TGraph) (hf : Fits a) (hl : a.1.length = b.1.length) (hl2 : a.2.length = b.2.length) : ∀ d i : Nat, i + d = a.1.length → V.pleachref26_Same.l11010 a b (i : Int) = some (decide (a.1.drop i = b.1.drop i) && decide (a.2 = b.2))
  | 0, i, h => by
    refine V.pleachref26_Same.l11010.of _ _ _ ?_
    unfold F.pleachref26_Same.l11010.B
    have := Same_l1 a b hf hl2 a.2.length 0 (by omega)
    rw [if_out (by omega), List.drop_eq_nil_of_le (by omega), List.drop_eq_nil_of_le (by omega), show (0 : Int) = ((0 : Nat) : Int) from rfl, this]
    simp
  | d + 1, i, h => by
    refine V.pleachref26_Same.l11010.of _ _ _ ?_
    unfold F.pleachref26_Same.l11010.B
    have h1 : i < a.1.length := by omega
    have h2 : i < b.1.length := by omega
    have he := hf.n _ (rd_mem (e := sNode) h1)
    rw [if_in h1, guard_in h1, guard_in h2, nat_cast, w64_up h1 hf.ns, Same_l0 a b hf hl hl2 d (i + 1) (by omega), SameNode_ok _ _ he.1 he.2, Option.bind_some]
    rw [rd_get (e := sNode) h1, rd_get (e := sNode) h2, drop_eq h1 h2]
    by_cases hq : a.1[i] = b.1[i] <;> simp [hq]
theorem Same_ok (a b : TGraph) (hf : Fits a) : V.pleachref26_Same a b = some (decide (a = b)) := by
  refine V.pleachref26_Same.of _ _ ?_
  unfold F.pleachref26_Same.B
  by_cases h1 : a.1.length = b.1.length
  · by_cases h2 : a.2.length = b.2.length
    · have := Same_l0 a b hf h1 h2 a.1.length 0 (by omega)
      rw [show (0 : Int) = ((0 : Nat) : Int) from rfl, this, h1, h2]
      obtain ⟨x, y⟩ := a
      obtain ⟨x', y'⟩ := b
      simp
    · rw [show ((a.2.length : Int) != (b.2.length : Int)) = true by simp; omega, h1]
      simp
      intro h; rw [h] at h2; exact h2 rfl
  · rw [show ((a.1.length : Int) != (b.1.length : Int)) = true by simp; omega, cond_true]
    simp
    intro h; rw [h] at h1; exact h1 rfl
end Go.Proofs.YtdblhdpnllckhaaGreat.AE
end
section
set_option linter.unusedVariables false
set_option linter.unusedSimpArgs false
set_option maxRecDepth 20000
namespace Go.Proofs.YtdblhdpnllckhaaGreat.AE
open Go

theorem half_nat {lo hi n : Nat} (h : lo < hi) (hn : hi ≤ n) (hb : n ≤ 70368744177616) : w64 (Int.fdiv (IntKind.wrap .u64 (w64 ((lo : Int) + (hi : Int)))) (2 ^ 1)) = (((lo + hi) / 2 : Nat) : Int) := by
  rw [w64_id (x := (lo : Int) + hi) (by omega) (by omega), u64_id (by omega) (by omega), Int.fdiv_eq_ediv_of_nonneg _ (by omega), w64_id (by omega) (by omega)]
  omega

/-- Texts that rise. -/
def Up (ks : List ByteArray) : Prop := ks.Pairwise fun a b => strLt a b = true
/-- How many of them stand ahead of one. -/
def lb (ks : List ByteArray) (x : ByteArray) : Nat := ks.findIdx fun k => !strLt k x

theorem Up.lt {ks : List ByteArray} (hu : Up ks) {i j : Nat} (h : i < j) (hj : j < ks.length) : strLt (ks[i]'(by omega)) ks[j] = true := List.pairwise_iff_getElem.1 hu i j (by omega) hj h
theorem lb_le (ks : List ByteArray) (x : ByteArray) : lb ks x ≤ ks.length := List.findIdx_le_length
theorem lb_lt {ks : List ByteArray} (hu : Up ks) (x : ByteArray) {i : Nat} (hi : i < ks.length) : strLt ks[i] x = true ↔ i < lb ks x := by
  constructor
  · intro h
    refine Nat.lt_of_not_le fun hle => ?_
    have h1 : lb ks x < ks.length := by omega
    have h2 : (!strLt ks[lb ks x] x) = true := List.findIdx_getElem (w := h1)
    rcases Nat.eq_or_lt_of_le hle with e | e
    · have : strLt ks[lb ks x] x = true := by simp only [e]; exact h
      rw [this] at h2; cases h2
    · have := lt_trans (hu.lt e hi) h
      rw [this] at h2; cases h2
  · intro h
    have := List.not_of_lt_findIdx h
    simpa using this
/-- One of rising texts is met where as many as stand ahead of it have gone by. -/
theorem met_iff {ks : List ByteArray} (hu : Up ks) (x : ByteArray) : x ∈ ks ↔ ∃ h : lb ks x < ks.length, ks[lb ks x] = x := by
  constructor
  · intro h
    obtain ⟨i, hi, e⟩ := List.getElem_of_mem h
    have h1 : ¬ i < lb ks x := fun g => by
      have := (lb_lt hu x hi).2 g
      rw [e, lt_irr] at this; cases this
    have h2 : ¬ lb ks x < i := fun g => by
      have := hu.lt g hi
      rw [e] at this
      have := (lb_lt hu x (by omega)).1 this
      omega
    have h3 : lb ks x = i := by omega
    exact ⟨by omega, by simp only [h3]; exact e⟩
  · rintro ⟨h, e⟩
    exact e ▸ List.getElem_mem h

def has (ks : List ByteArray) (x : ByteArray) : Bool := ks.any fun k => strEq k x
theorem has_iff {ks : List ByteArray} {x : ByteArray} : has ks x = true ↔ x ∈ ks := by
  unfold has
  rw [List.any_eq_true]
  exact ⟨fun ⟨k, h, e⟩ => strEq_iff.1 e ▸ h, fun h => ⟨x, h, strEq_self x⟩⟩

theorem search_gen {ks : List ByteArray} {x : ByteArray} (hu : Up ks) (S : Int → Int → Option (Int × Bool))
    (h1 : ∀ (lo hi : Nat) r, (h : lo < hi) → (hh : hi ≤ ks.length) → (if strLt (ks[(lo + hi) / 2]'(by omega)) x = true then S (((lo + hi) / 2 + 1 : Nat) : Int) (hi : Int) else S (lo : Int) (((lo + hi) / 2 : Nat) : Int)) = some r → S (lo : Int) (hi : Int) = some r)
    (h2 : ∀ lo : Nat, lo ≤ ks.length → S (lo : Int) (lo : Int) = some ((lo : Int), decide (ks[lo]? = some x))) :
    S 0 (ks.length : Int) = some ((lb ks x : Int), has ks x) := by
  have main : ∀ d lo hi : Nat, hi - lo ≤ d → lo ≤ lb ks x → lb ks x ≤ hi → hi ≤ ks.length → S (lo : Int) (hi : Int) = some ((lb ks x : Int), has ks x) := by
    intro d
    induction d with
    | zero =>
      intro lo hi h a b c
      have e1 : lo = lb ks x := by omega
      have e2 : hi = lb ks x := by omega
      subst e1; rw [e2]
      rw [h2 _ (lb_le ks x)]
      congr 2
      rw [Bool.eq_iff_iff, decide_eq_true_iff, has_iff, met_iff hu x, List.getElem?_eq_some_iff]
    | succ d ih =>
      intro lo hi h a b c
      rcases Nat.lt_or_ge lo hi with hl | hl
      · refine h1 lo hi _ hl c ?_
        split
        · rename_i g
          exact ih _ _ (by omega) ((lb_lt hu x (by omega)).1 g) b c
        · rename_i g
          exact ih _ _ (by omega) a (by have := mt (lb_lt hu x (by omega)).2 g; omega) (by omega)
      · exact ih lo hi (by omega) a b c
  exact main ks.length 0 ks.length (by omega) (by omega) (lb_le ks x) (Nat.le_refl _)

theorem cmpCompareS_ok (a b : ByteArray) : V.cmp_Compare_string a b = some (cmpS a b) := by
  have nan : ∀ x : ByteArray, V.cmp_isNaN_string x = some false := fun x => V.cmp_isNaN_string.of x (by unfold F.cmp_isNaN_string.B; rw [strEq_self]; rfl)
  refine V.cmp_Compare_string.of a b ?_
  unfold F.cmp_Compare_string.B cmpS
  rw [nan, nan, Option.bind_some, Option.bind_some, lt_or]
  cases strLt a b <;> cases strLt b a <;> rfl
theorem cmpS_neg (a b : ByteArray) : decide (cmpS a b < 0) = strLt a b := by
  unfold cmpS
  cases strLt a b <;> cases strLt b a <;> rfl
theorem cmpS_zero (a b : ByteArray) : (cmpS a b == 0) = decide (a = b) := by
  by_cases h : a = b
  · subst h; simp [cmpS, lt_irr]
  · unfold cmpS
    cases h1 : strLt a b with
    | true => simp [h]
    | false => simp [lt_total h1 h, h]

abbrev ids (l : List TNode) : List ByteArray := l.map fun n => n.1
abbrev eids (l : List TEdge) : List ByteArray := l.map fun x => x.1
theorem ids_get {l : List TNode} {i : Nat} (h : i < l.length) : (rd sNode l i).1 = (ids l)[i]'(by simpa using h) := by rw [rd_get (e := sNode) h, List.getElem_map]
theorem eids_get {l : List TEdge} {i : Nat} (h : i < l.length) : (rd sEdge l i).1 = (eids l)[i]'(by simpa using h) := by rw [rd_get (e := sEdge) h, List.getElem_map]

end Go.Proofs.YtdblhdpnllckhaaGreat.AE
end
section
set_option linter.unusedVariables false
set_option linter.unusedSimpArgs false
set_option maxRecDepth 20000
namespace Go.Proofs.YtdblhdpnllckhaaGreat.AE
open Go

theorem node1_ok (n : TNode) (x : ByteArray) : V.graph_node_1 n x = some (cmpS n.1 x) := by
  refine V.graph_node_1.of _ _ ?_
  unfold F.graph_node_1.B
  rw [cmpCompareS_ok, Option.bind_some]
theorem edge1_ok (n : TEdge) (x : ByteArray) : V.graph_edge_1 n x = some (cmpS n.1 x) := by
  refine V.graph_edge_1.of _ _ ?_
  unfold F.graph_edge_1.B
  rw [cmpCompareS_ok, Option.bind_some]

theorem searchN_ok (l : List TNode) (x : ByteArray) (hu : Up (ids l)) (hb : l.length ≤ 70368744177616) : V.slices_BinarySearchFunc_apiNodeapiNodestring_by_graph_node_1 l x = some ((lb (ids l) x : Int), has (ids l) x) := by
  refine V.slices_BinarySearchFunc_apiNodeapiNodestring_by_graph_node_1.of _ _ ?_
  unfold F.slices_BinarySearchFunc_apiNodeapiNodestring_by_graph_node_1.B
  have hl : (ids l).length = l.length := by simp
  rw [show (l.length : Int) = ((ids l).length : Int) by simp]
  refine search_gen hu (V.slices_BinarySearchFunc_apiNodeapiNodestring_by_graph_node_1.l11100 l x) (fun lo hi r h hh hr => ?_) (fun lo hlo => ?_)
  · refine V.slices_BinarySearchFunc_apiNodeapiNodestring_by_graph_node_1.l11100.of _ _ _ _ ?_
    unfold F.slices_BinarySearchFunc_apiNodeapiNodestring_by_graph_node_1.l11100.B
    rw [if_in h, half_nat h (by omega) hb, guard_in (by omega), nat_cast, node1_ok, Option.bind_some, cmpS_neg, w64_up (n := l.length) (by omega) (by omega)]
    show (bif strLt (rd sNode l ((lo + hi) / 2)).1 x then _ else _) = _
    rw [ids_get (by omega), ← hr]
    cases strLt ((ids l)[(lo + hi) / 2]'(by omega)) x <;> rfl
  · refine V.slices_BinarySearchFunc_apiNodeapiNodestring_by_graph_node_1.l11100.of _ _ _ _ ?_
    unfold F.slices_BinarySearchFunc_apiNodeapiNodestring_by_graph_node_1.l11100.B
    rw [if_no (by omega)]
    rcases Nat.lt_or_ge lo l.length with h | h
    · rw [if_in h, guard_in h, nat_cast, node1_ok, Option.bind_some, cmpS_zero]
      show some ((lo : Int), decide ((rd sNode l lo).1 = x)) = _
      rw [ids_get h, List.getElem?_eq_getElem (by omega)]
      simp
    · rw [if_out h, List.getElem?_eq_none (by omega)]; simp
theorem searchE_ok (l : List TEdge) (x : ByteArray) (hu : Up (eids l)) (hb : l.length ≤ 70368744177616) : V.slices_BinarySearchFunc_apiEdgeapiEdgestring_by_graph_edge_1 l x = some ((lb (eids l) x : Int), has (eids l) x) := by
  refine V.slices_BinarySearchFunc_apiEdgeapiEdgestring_by_graph_edge_1.of _ _ ?_
  unfold F.slices_BinarySearchFunc_apiEdgeapiEdgestring_by_graph_edge_1.B
  have hl : (eids l).length = l.length := by simp
  rw [show (l.length : Int) = ((eids l).length : Int) by simp]
  refine search_gen hu (V.slices_BinarySearchFunc_apiEdgeapiEdgestring_by_graph_edge_1.l11100 l x) (fun lo hi r h hh hr => ?_) (fun lo hlo => ?_)
  · refine V.slices_BinarySearchFunc_apiEdgeapiEdgestring_by_graph_edge_1.l11100.of _ _ _ _ ?_
    unfold F.slices_BinarySearchFunc_apiEdgeapiEdgestring_by_graph_edge_1.l11100.B
    rw [if_in h, half_nat h (by omega) hb, guard_in (by omega), nat_cast, edge1_ok, Option.bind_some, cmpS_neg, w64_up (n := l.length) (by omega) (by omega)]
    show (bif strLt (rd sEdge l ((lo + hi) / 2)).1 x then _ else _) = _
    rw [eids_get (by omega), ← hr]
    cases strLt ((eids l)[(lo + hi) / 2]'(by omega)) x <;> rfl
  · refine V.slices_BinarySearchFunc_apiEdgeapiEdgestring_by_graph_edge_1.l11100.of _ _ _ _ ?_
    unfold F.slices_BinarySearchFunc_apiEdgeapiEdgestring_by_graph_edge_1.l11100.B
    rw [if_no (by omega)]
    rcases Nat.lt_or_ge lo l.length with h | h
    · rw [if_in h, guard_in h, nat_cast, edge1_ok, Option.bind_some, cmpS_zero]
      show some ((lo : Int), decide ((rd sEdge l lo).1 = x)) = _
      rw [eids_get h, List.getElem?_eq_getElem (by omega)]
      simp
    · rw [if_out h, List.getElem?_eq_none (by omega)]; simp
theorem node_ok (g : TGraph) (x : ByteArray) (hu : Up (ids g.1)) (hb : g.1.length ≤ 70368744177616) : V.graph_node g x = some ((lb (ids g.1) x : Int), has (ids g.1) x) := by
  refine V.graph_node.of _ _ ?_
  unfold F.graph_node.B
  rw [searchN_ok _ _ hu hb, Option.bind_some]
theorem edge_ok (g : TGraph) (x : ByteArray) (hu : Up (eids g.2)) (hb : g.2.length ≤ 70368744177616) : V.graph_edge g x = some ((lb (eids g.2) x : Int), has (eids g.2) x) := by
  refine V.graph_edge.of _ _ ?_
  unfold F.graph_edge.B
  rw [searchE_ok _ _ hu hb, Option.bind_some]

/-- Where an Id is first met, as a number. -/
def atI (ks : List ByteArray) (x : ByteArray) : Int := if has ks x then (ks.findIdx (fun k => strEq k x) : Int) else -1
theorem atI_neg (ks : List ByteArray) (x : ByteArray) : decide (atI ks x < 0) = !has ks x := by
  unfold atI; split <;> rename_i h <;> simp [h]
theorem atI_up {ks : List ByteArray} (hu : Up ks) (x : ByteArray) : atI ks x = if has ks x then (lb ks x : Int) else -1 := by
  unfold atI
  split
  · rename_i h
    obtain ⟨h1, h2⟩ := (met_iff hu x).1 (has_iff.1 h)
    congr 1
    have h3 : ks.findIdx (fun k => strEq k x) = lb ks x := by
      rw [List.findIdx_eq h1]
      refine ⟨by rw [h2, strEq_self], fun j hj => strEq_no fun e => ?_⟩
      have := (lb_lt hu x (by omega)).2 hj
      rw [e, lt_irr] at this; cases this
    omega
  · rfl
theorem atI_step {ks : List ByteArray} {x : ByteArray} {i : Nat} (hi : i < ks.length) (h : ∀ j (hj : j < ks.length), j < i → ks[j] ≠ x) : atI ks x = if strEq ks[i] x then (i : Int) else atI ks x := by
  split
  · rename_i e
    have e := strEq_iff.1 e
    have hm : x ∈ ks := e ▸ List.getElem_mem hi
    unfold atI
    rw [if_pos (has_iff.2 hm)]
    have : ks.findIdx (fun k => strEq k x) = i := by
      rw [List.findIdx_eq hi]
      exact ⟨by rw [e, strEq_self], fun j hj => strEq_no (h j (by omega) hj)⟩
    omega
  · rfl
theorem atI_none {ks : List ByteArray} {x : ByteArray} (h : ∀ j (hj : j < ks.length), ks[j] ≠ x) : atI ks x = -1 := by
  unfold atI
  rw [if_neg fun hm => by
    obtain ⟨i, hi, e⟩ := List.getElem_of_mem (has_iff.1 hm)
    exact h i hi e]
theorem NodeAt_l (g : TGraph) (x : ByteArray) (hs : g.1.length ≤ 140737488351232) : ∀ d i : Nat, i + d = g.1.length → (∀ j (hj : j < (ids g.1).length), j < i → (ids g.1)[j] ≠ x) → V.pleachref26_NodeAt.l1010 g x (i : Int) = some (atI (ids g.1) x)
  | 0, i, h, hn => by
    refine V.pleachref26_NodeAt.l1010.of _ _ _ ?_
    unfold F.pleachref26_NodeAt.l1010.B
    rw [if_out (by omega), atI_none fun j hj => hn j hj (by simp at hj; omega)]
  | d + 1, i, h, hn => by
    have hi : i < g.1.length := by omega
    refine V.pleachref26_NodeAt.l1010.of _ _ _ ?_
    unfold F.pleachref26_NodeAt.l1010.B
    rw [if_in hi, guard_in hi, nat_cast, w64_up hi hs, ids_get hi, atI_step (ks := ids g.1) (i := i) (by simpa using hi) hn]
    cases hc : strEq ((ids g.1)[i]'(by simpa using hi)) x with
    | true => rfl
    | false =>
      refine NodeAt_l g x hs d (i + 1) (by omega) fun j hj g1 e => ?_
      rcases Nat.lt_or_ge j i with g2 | g2
      · exact hn j hj g2 e
      · have : j = i := by omega
        subst this
        rw [e, strEq_self] at hc; cases hc
theorem NodeAt_ok (g : TGraph) (x : ByteArray) (hs : g.1.length ≤ 140737488351232) : V.pleachref26_NodeAt g x = some (atI (ids g.1) x) := by
  refine V.pleachref26_NodeAt.of _ _ ?_
  unfold F.pleachref26_NodeAt.B
  exact NodeAt_l g x hs g.1.length 0 (by omega) fun j hj h => by omega

end Go.Proofs.YtdblhdpnllckhaaGreat.AE
end
section
set_option linter.unusedVariables false
set_option linter.unusedSimpArgs false
set_option maxRecDepth 20000
namespace Go.Proofs.YtdblhdpnllckhaaGreat.AE
open Go

/-- A graph of sizes that fit. -/
structure okGraph (g : TGraph) : Prop where
  ns : g.1.length ≤ 70368744177616
  es : g.2.length ≤ 70368744177616
  n : ∀ n ∈ g.1, okNode n
  e : ∀ x ∈ g.2, okEdge x

def nodeStep (l : List TNode) (i : Nat) : Option Int :=
  if nodeN (rd sNode l i) ≠ 0 then some (nodeN (rd sNode l i)) else if 0 < i ∧ strLt (rd sNode l (i - 1)).1 (rd sNode l i).1 = false then some 4 else none
def edgeStep (ks : List ByteArray) (l : List TEdge) (i : Nat) : Option Int :=
  if edgeN (rd sEdge l i) ≠ 0 then some (edgeN (rd sEdge l i)) else if 0 < i ∧ strLt (rd sEdge l (i - 1)).1 (rd sEdge l i).1 = false then some 4
  else if has ks (rd sEdge l i).2.1 = true ∧ has ks (rd sEdge l i).2.2.1 = true then none else some 9
def edgesN (g : TGraph) : Int := scanI (edgeStep (ids g.1) g.2) g.2.length 0
def wrongN (g : TGraph) : Int := if g.1.length > 500 then 5 else if g.2.length > 1000 then 5 else scanG (nodeStep g.1) (edgesN g) g.1.length 0

theorem up_of {ks : List ByteArray} (h : ∀ i (hi : i < ks.length), 0 < i → strLt (ks[i - 1]'(by omega)) ks[i] = true) : Up ks := by
  refine List.pairwise_iff_getElem.2 fun i j hi hj hij => ?_
  have main : ∀ d j (hj : j < ks.length), j = i + 1 + d → strLt ks[i] ks[j] = true := by
    intro d
    induction d with
    | zero =>
      intro j hj e
      have := h j hj (by omega)
      simpa [e] using this
    | succ d ih =>
      intro j hj e
      have h1 := ih (j - 1) (by omega) (by omega)
      exact lt_trans h1 (h j hj (by omega))
  exact main (j - (i + 1)) j hj (by omega)
theorem nodeStep_none {l : List TNode} {i : Nat} (h : nodeStep l i = none) : nodeN (rd sNode l i) = 0 ∧ (0 < i → strLt (rd sNode l (i - 1)).1 (rd sNode l i).1 = true) := by
  unfold nodeStep at h
  split at h
  · cases h
  · rename_i h0
    split at h
    · cases h
    · rename_i h1
      exact ⟨by simpa using h0, fun hp => by cases hl : strLt (rd sNode l (i - 1)).1 (rd sNode l i).1 with | true => rfl | false => exact absurd ⟨hp, hl⟩ h1⟩
theorem edgeStep_none {ks : List ByteArray} {l : List TEdge} {i : Nat} (h : edgeStep ks l i = none) : edgeN (rd sEdge l i) = 0 ∧ (0 < i → strLt (rd sEdge l (i - 1)).1 (rd sEdge l i).1 = true) ∧ has ks (rd sEdge l i).2.1 = true ∧ has ks (rd sEdge l i).2.2.1 = true := by
  unfold edgeStep at h
  split at h
  · cases h
  · rename_i h0
    split at h
    · cases h
    · rename_i h1
      split at h
      · rename_i h2
        exact ⟨by simpa using h0, fun hp => by cases hl : strLt (rd sEdge l (i - 1)).1 (rd sEdge l i).1 with | true => rfl | false => exact absurd ⟨hp, hl⟩ h1, h2⟩
      · cases h
theorem up_nodes {l : List TNode} (h : ∀ j, j < l.length → nodeStep l j = none) : Up (ids l) := by
  refine up_of fun i hi hp => ?_
  have hi' : i < l.length := by simpa using hi
  have := (nodeStep_none (h i hi')).2 hp
  rw [ids_get (by omega : i - 1 < l.length), ids_get hi'] at this
  exact this
theorem up_edges {ks : List ByteArray} {l : List TEdge} (h : ∀ j, j < l.length → edgeStep ks l j = none) : Up (eids l) := by
  refine up_of fun i hi hp => ?_
  have hi' : i < l.length := by simpa using hi
  have := (edgeStep_none (h i hi')).2.1 hp
  rw [eids_get (by omega : i - 1 < l.length), eids_get hi'] at this
  exact this

theorem Check_l1 (g : TGraph) (hok : okGraph g) (hu : Up (ids g.1)) : ∀ d i : Nat, i + d = g.2.length → V.graph_Check.l111010 g (i : Int) = some (scanI (edgeStep (ids g.1) g.2) d i)
  | 0, i, h => by
    refine V.graph_Check.l111010.of _ _ ?_
    unfold F.graph_Check.l111010.B
    rw [if_out (by omega)]
    rfl
  | d + 1, i, h => by
    have hi : i < g.2.length := by omega
    have hs : g.2.length ≤ 140737488351232 := by have := hok.es; omega
    have ih := Check_l1 g hok hu d (i + 1) (by omega)
    have e := CheckEdge_ok _ (hok.e _ (rd_mem (e := sEdge) hi))
    have nd : ∀ x, V.graph_node (g.1, g.2) x = some ((lb (ids g.1) x : Int), has (ids g.1) x) := fun x => node_ok g x hu hok.ns
    refine V.graph_Check.l111010.of _ _ ?_
    unfold F.graph_Check.l111010.B
    rw [if_in hi, guard_in hi, nat_cast, e, Option.bind_some, scanI_succ]
    simp only [nd, Option.bind_some, w64_up hi hs, ih]
    unfold edgeStep
    generalize scanI _ d (i + 1) = q
    by_cases hp : 0 < i
    · rw [if_yes (by omega : (i : Int) > 0), w64_dn hi hs hp, guard_in (by omega : i - 1 < g.2.length), nat_cast]
      generalize rd sEdge g.2 i = x
      generalize rd sEdge g.2 (i - 1) = y
      by_cases h0 : edgeN x = 0
      · cases hl : strLt y.1 x.1 <;> cases m1 : has (ids g.1) x.2.1 <;> cases m2 : has (ids g.1) x.2.2.1 <;> simp [h0, hp, hl, m1, m2]
      · simp [h0, Bool.cond_eq_ite]
    · rw [if_no (by omega : ¬ (i : Int) > 0)]
      generalize rd sEdge g.2 i = x
      by_cases h0 : edgeN x = 0
      · cases m1 : has (ids g.1) x.2.1 <;> cases m2 : has (ids g.1) x.2.2.1 <;> simp [h0, hp, m1, m2]
      · simp [h0, Bool.cond_eq_ite]
theorem Check_l0 (g : TGraph) (hok : okGraph g) : ∀ d i : Nat, i + d = g.1.length → (∀ j, j < i → nodeStep g.1 j = none) → V.graph_Check.l11010 g (i : Int) = some (scanG (nodeStep g.1) (edgesN g) d i)
  | 0, i, h, hn => by
    refine V.graph_Check.l11010.of _ _ ?_
    unfold F.graph_Check.l11010.B
    rw [if_out (by omega)]
    exact Check_l1 g hok (up_nodes fun j hj => hn j (by omega)) g.2.length 0 (by omega)
  | d + 1, i, h, hn => by
    have hi : i < g.1.length := by omega
    have hs : g.1.length ≤ 140737488351232 := by have := hok.ns; omega
    have e := CheckNode_ok _ (hok.n _ (rd_mem (e := sNode) hi))
    refine V.graph_Check.l11010.of _ _ ?_
    unfold F.graph_Check.l11010.B
    rw [if_in hi, guard_in hi, nat_cast, e, Option.bind_some, scanG_succ]
    have ih : nodeStep g.1 i = none → V.graph_Check.l11010 g (((i + 1 : Nat)) : Int) = some (scanG (nodeStep g.1) (edgesN g) d (i + 1)) := fun hh => Check_l0 g hok d (i + 1) (by omega) fun j hj => by
      rcases Nat.lt_or_ge j i with g1 | g1
      · exact hn j g1
      · rw [show j = i by omega]; exact hh
    rw [w64_up hi hs]
    unfold nodeStep at ih ⊢
    generalize scanG _ _ d (i + 1) = q at ih ⊢
    by_cases hp : 0 < i
    · rw [if_yes (by omega : (i : Int) > 0), w64_dn hi hs hp, guard_in (by omega : i - 1 < g.1.length), nat_cast]
      generalize rd sNode g.1 i = x at ih ⊢
      generalize rd sNode g.1 (i - 1) = y at ih ⊢
      by_cases h0 : nodeN x = 0
      · cases hl : strLt y.1 x.1
        · simp [h0, hp, hl]
        · rw [ih (by simp [h0, hp, hl])]; simp [h0, hp, hl]
      · simp [h0, Bool.cond_eq_ite]
    · rw [if_no (by omega : ¬ (i : Int) > 0)]
      generalize rd sNode g.1 i = x at ih ⊢
      by_cases h0 : nodeN x = 0
      · rw [ih (by simp [h0, hp])]; simp [h0, hp]
      · simp [h0, Bool.cond_eq_ite]
theorem Check_ok (g : TGraph) (hok : okGraph g) : V.graph_Check g = some (wrongN g) := by
  refine V.graph_Check.of _ ?_
  unfold F.graph_Check.B wrongN
  by_cases h1 : g.1.length > 500
  · rw [if_yes (by omega), if_pos h1]
  · rw [if_no (by omega), if_neg h1]
    by_cases h2 : g.2.length > 1000
    · rw [if_yes (by omega), if_pos h2]
    · rw [if_no (by omega), if_neg h2]
      exact Check_l0 g hok g.1.length 0 (by omega) fun j hj => by omega

theorem Wrong_l1 (g : TGraph) (hok : okGraph g) : ∀ d i : Nat, i + d = g.2.length → V.pleachref26_Wrong.l111010 g (i : Int) = some (scanI (edgeStep (ids g.1) g.2) d i)
  | 0, i, h => by
    refine V.pleachref26_Wrong.l111010.of _ _ ?_
    unfold F.pleachref26_Wrong.l111010.B
    rw [if_out (by omega)]
    rfl
  | d + 1, i, h => by
    have hi : i < g.2.length := by omega
    have hs : g.2.length ≤ 140737488351232 := by have := hok.es; omega
    have ih := Wrong_l1 g hok d (i + 1) (by omega)
    have e := refEdge_ok _ (hok.e _ (rd_mem (e := sEdge) hi))
    have nd : ∀ x, V.pleachref26_NodeAt (g.1, g.2) x = some (atI (ids g.1) x) := fun x => NodeAt_ok g x (by have := hok.ns; omega)
    refine V.pleachref26_Wrong.l111010.of _ _ ?_
    unfold F.pleachref26_Wrong.l111010.B
    rw [if_in hi, guard_in hi, nat_cast, e, Option.bind_some, scanI_succ]
    simp only [nd, Option.bind_some, w64_up hi hs, ih, atI_neg, lt_or]
    unfold edgeStep
    generalize scanI _ d (i + 1) = q
    by_cases hp : 0 < i
    · rw [if_yes (by omega : (i : Int) > 0), w64_dn hi hs hp, guard_in (by omega : i - 1 < g.2.length), nat_cast]
      generalize rd sEdge g.2 i = x
      generalize rd sEdge g.2 (i - 1) = y
      by_cases h0 : edgeN x = 0
      · cases hl : strLt y.1 x.1 <;> cases m1 : has (ids g.1) x.2.1 <;> cases m2 : has (ids g.1) x.2.2.1 <;> simp [h0, hp, hl, m1, m2]
      · simp [h0, Bool.cond_eq_ite]
    · rw [if_no (by omega : ¬ (i : Int) > 0)]
      generalize rd sEdge g.2 i = x
      by_cases h0 : edgeN x = 0
      · cases m1 : has (ids g.1) x.2.1 <;> cases m2 : has (ids g.1) x.2.2.1 <;> simp [h0, hp, m1, m2]
      · simp [h0, Bool.cond_eq_ite]
theorem Wrong_l0 (g : TGraph) (hok : okGraph g) : ∀ d i : Nat, i + d = g.1.length → V.pleachref26_Wrong.l11010 g (i : Int) = some (scanG (nodeStep g.1) (edgesN g) d i)
  | 0, i, h => by
    refine V.pleachref26_Wrong.l11010.of _ _ ?_
    unfold F.pleachref26_Wrong.l11010.B
    rw [if_out (by omega)]
    exact Wrong_l1 g hok g.2.length 0 (by omega)
  | d + 1, i, h => by
    have hi : i < g.1.length := by omega
    have hs : g.1.length ≤ 140737488351232 := by have := hok.ns; omega
    have e := refNode_ok _ (hok.n _ (rd_mem (e := sNode) hi))
    have ih := Wrong_l0 g hok d (i + 1) (by omega)
    refine V.pleachref26_Wrong.l11010.of _ _ ?_
    unfold F.pleachref26_Wrong.l11010.B
    rw [if_in hi, guard_in hi, nat_cast, e, Option.bind_some, scanG_succ, w64_up hi hs, ih]
    simp only [lt_or]
    unfold nodeStep
    generalize scanG _ _ d (i + 1) = q
    by_cases hp : 0 < i
    · rw [if_yes (by omega : (i : Int) > 0), guard_in hi, w64_dn hi hs hp, guard_in (by omega : i - 1 < g.1.length), nat_cast]
      generalize rd sNode g.1 i = x
      generalize rd sNode g.1 (i - 1) = y
      by_cases h0 : nodeN x = 0
      · cases hl : strLt y.1 x.1 <;> simp [h0, hp, hl]
      · simp [h0, Bool.cond_eq_ite]
    · rw [if_no (by omega : ¬ (i : Int) > 0)]
      generalize rd sNode g.1 i = x
      by_cases h0 : nodeN x = 0 <;> simp [h0, hp, Bool.cond_eq_ite]
theorem Wrong_ok (g : TGraph) (hok : okGraph g) : V.pleachref26_Wrong g = some (wrongN g) := by
  refine V.pleachref26_Wrong.of _ ?_
  unfold F.pleachref26_Wrong.B wrongN
  by_cases h1 : g.1.length > 500
  · rw [if_yes (by omega), if_pos h1]
  · rw [if_no (by omega), if_neg h1]
    by_cases h2 : g.2.length > 1000
    · rw [if_yes (by omega), if_pos h2]
    · rw [if_no (by omega), if_neg h2]
      exact Wrong_l0 g hok g.1.length 0 (by omega)

/-- What is told of a graph that may be. -/
structure Good26 (g : TGraph) : Prop where
  ns : g.1.length ≤ 500
  es : g.2.length ≤ 1000
  nodes : ∀ n ∈ g.1, nodeN n = 0
  edges : ∀ x ∈ g.2, edgeN x = 0
  nup : Up (ids g.1)
  eup : Up (eids g.2)
  fr : ∀ x ∈ g.2, x.2.1 ∈ ids g.1
  to : ∀ x ∈ g.2, x.2.2.1 ∈ ids g.1

end Go.Proofs.YtdblhdpnllckhaaGreat.AE
end
section
set_option linter.unusedVariables false
set_option linter.unusedSimpArgs false
set_option maxRecDepth 20000
namespace Go.Proofs.YtdblhdpnllckhaaGreat.AE
open Go

def cut5 (s : ByteArray) : Int := if 5000 < (s.size : Int) then 5000 else (s.size : Int)
theorem cut5_in (s : ByteArray) : 0 ≤ cut5 s ∧ cut5 s ≤ 5000 := by unfold cut5; split <;> omega

theorem weight_l1 (a : List ByteArray) (b : List TProp) (hb : b.length ≤ 20) : ∀ (d i : Nat) (x : Int), i + d = b.length → 0 ≤ x → x ≤ 100000 + 10000 * i → ∃ r, V.pleachref26_weight.l1111010 a b x (i : Int) = some r ∧ 0 ≤ r ∧ r ≤ 300000
  | 0, i, x, h, h0, h1 => by
    refine ⟨x, ?_, h0, by omega⟩
    refine V.pleachref26_weight.l1111010.of _ _ _ _ ?_
    unfold F.pleachref26_weight.l1111010.B
    rw [if_out (by omega)]
  | d + 1, i, x, h, h0, h1 => by
    have hi : i < b.length := by omega
    have c1 := cut5_in (rd sProp b i).1
    have c2 := cut5_in (rd sProp b i).2.2.2
    obtain ⟨r, hr, g⟩ := weight_l1 a b hb d (i + 1) (x + cut5 (rd sProp b i).1 + cut5 (rd sProp b i).2.2.2) (by omega) (by omega) (by omega)
    refine ⟨r, ?_, g⟩
    refine V.pleachref26_weight.l1111010.of _ _ _ _ ?_
    unfold F.pleachref26_weight.l1111010.B
    rw [if_in hi, guard_in hi, guard_in hi, nat_cast, w64_up (n := b.length) hi (by omega)]
    show V.pleachref26_weight.l1111010 a b (w64 (w64 (x + cut5 (rd sProp b i).1) + cut5 (rd sProp b i).2.2.2)) _ = _
    rw [w64_id (x := x + cut5 (rd sProp b i).1) (by omega) (by omega), w64_id (by omega) (by omega)]
    exact hr
theorem weight_l0 (a : List ByteArray) (b : List TProp) (ha : a.length ≤ 20) (hb : b.length ≤ 20) : ∀ (d i : Nat) (x : Int), i + d = a.length → 0 ≤ x → x ≤ 5000 * i → ∃ r, V.pleachref26_weight.l111010 a b x (i : Int) = some r ∧ 0 ≤ r ∧ r ≤ 300000
  | 0, i, x, h, h0, h1 => by
    obtain ⟨r, hr, g⟩ := weight_l1 a b hb b.length 0 x (by omega) h0 (by omega)
    refine ⟨r, ?_, g⟩
    refine V.pleachref26_weight.l111010.of _ _ _ _ ?_
    unfold F.pleachref26_weight.l111010.B
    rw [if_out (by omega)]
    exact hr
  | d + 1, i, x, h, h0, h1 => by
    have hi : i < a.length := by omega
    have c1 := cut5_in (rd .str a i)
    obtain ⟨r, hr, g⟩ := weight_l0 a b ha hb d (i + 1) (x + cut5 (rd .str a i)) (by omega) (by omega) (by omega)
    refine ⟨r, ?_, g⟩
    refine V.pleachref26_weight.l111010.of _ _ _ _ ?_
    unfold F.pleachref26_weight.l111010.B
    rw [if_in hi, guard_in hi, nat_cast, w64_up (n := a.length) hi (by omega)]
    show V.pleachref26_weight.l111010 a b (w64 (x + cut5 (rd .str a i))) _ = _
    rw [w64_id (by omega) (by omega)]
    exact hr
theorem weight_ok (a : List ByteArray) (b : List TProp) : ∃ r, V.pleachref26_weight a b = some r ∧ 0 ≤ r ∧ r ≤ 300000 ∧ (r ≤ 5000 → a.length ≤ 20 ∧ b.length ≤ 20) := by
  by_cases ha : a.length > 20
  · refine ⟨100000, V.pleachref26_weight.of _ _ ?_, by omega, by omega, by omega⟩
    unfold F.pleachref26_weight.B
    rw [if_yes (by omega)]
  · by_cases hb : b.length > 20
    · refine ⟨100000, V.pleachref26_weight.of _ _ ?_, by omega, by omega, by omega⟩
      unfold F.pleachref26_weight.B
      rw [if_no (by omega), if_yes (by omega)]
    · obtain ⟨r, hr, h0, h1⟩ := weight_l0 a b (by omega) (by omega) a.length 0 0 (by omega) (by omega) (by omega)
      refine ⟨r, V.pleachref26_weight.of _ _ ?_, h0, h1, fun _ => ⟨by omega, by omega⟩⟩
      unfold F.pleachref26_weight.B
      rw [if_no (by omega), if_no (by omega)]
      exact hr

structure Slim (g : TGraph) : Prop where
  ns : g.1.length ≤ 40
  es : g.2.length ≤ 60
  n : ∀ n ∈ g.1, n.2.1.length ≤ 20 ∧ n.2.2.length ≤ 20
  e : ∀ x ∈ g.2, x.2.2.2.1.length ≤ 20 ∧ x.2.2.2.2.length ≤ 20

theorem Few_l1 (g : TGraph) (hs : g.2.length ≤ 60) : ∀ (d i : Nat) (x : Int), i + d = g.2.length → 0 ≤ x → x ≤ 40000000 + 400000 * i → ∃ b, V.pleachref26_Few.l1111010 g x (i : Int) = some b ∧ (b = true → x ≤ 5000 ∧ ∀ j, i ≤ j → j < g.2.length → (rd sEdge g.2 j).2.2.2.1.length ≤ 20 ∧ (rd sEdge g.2 j).2.2.2.2.length ≤ 20)
  | 0, i, x, h, h0, h1 => by
    refine ⟨decide (x ≤ 5000), ?_, fun hb => ⟨by simpa using hb, fun j g1 g2 => by omega⟩⟩
    refine V.pleachref26_Few.l1111010.of _ _ _ ?_
    unfold F.pleachref26_Few.l1111010.B
    rw [if_out (by omega)]
  | d + 1, i, x, h, h0, h1 => by
    have hi : i < g.2.length := by omega
    obtain ⟨w, hw, w0, w1, w2⟩ := weight_ok (rd sEdge g.2 i).2.2.2.1 (rd sEdge g.2 i).2.2.2.2
    have c1 := cut5_in (rd sEdge g.2 i).1
    have c2 := cut5_in (rd sEdge g.2 i).2.1
    have c3 := cut5_in (rd sEdge g.2 i).2.2.1
    obtain ⟨b, hb, g⟩ := Few_l1 g hs d (i + 1) (x + cut5 (rd sEdge g.2 i).1 + cut5 (rd sEdge g.2 i).2.1 + cut5 (rd sEdge g.2 i).2.2.1 + w) (by omega) (by omega) (by omega)
    refine ⟨b, ?_, fun ht => ⟨by have := (g ht).1; omega, fun j g1 g2 => ?_⟩⟩
    · refine V.pleachref26_Few.l1111010.of _ _ _ ?_
      unfold F.pleachref26_Few.l1111010.B
      rw [if_in hi, guard_in hi, nat_cast, w64_up (n := 60) (by omega) (by omega), hw, Option.bind_some]
      show V.pleachref26_Few.l1111010 _ (w64 (w64 (w64 (w64 (x + cut5 (rd sEdge _ i).1) + cut5 (rd sEdge _ i).2.1) + cut5 (rd sEdge _ i).2.2.1) + w)) _ = _
      rw [w64_id (x := x + cut5 (rd sEdge _ i).1) (by omega) (by omega), w64_id (x := x + cut5 (rd sEdge _ i).1 + cut5 (rd sEdge _ i).2.1) (by omega) (by omega), w64_id (x := x + cut5 (rd sEdge _ i).1 + cut5 (rd sEdge _ i).2.1 + cut5 (rd sEdge _ i).2.2.1) (by omega) (by omega), w64_id (by omega) (by omega)]
      exact hb
    · rcases Nat.eq_or_lt_of_le g1 with e | e
      · subst e; exact w2 (by have := (g ht).1; omega)
      · exact (g ht).2 j e g2
theorem Few_l0 (g : TGraph) (hn : g.1.length ≤ 40) (hs : g.2.length ≤ 60) : ∀ (d i : Nat) (x : Int), i + d = g.1.length → 0 ≤ x → x ≤ 400000 * i → ∃ b, V.pleachref26_Few.l111010 g x (i : Int) = some b ∧ (b = true → x ≤ 5000 ∧ (∀ j, i ≤ j → j < g.1.length → (rd sNode g.1 j).2.1.length ≤ 20 ∧ (rd sNode g.1 j).2.2.length ≤ 20) ∧ ∀ j, j < g.2.length → (rd sEdge g.2 j).2.2.2.1.length ≤ 20 ∧ (rd sEdge g.2 j).2.2.2.2.length ≤ 20)
  | 0, i, x, h, h0, h1 => by
    obtain ⟨b, hb, q⟩ := Few_l1 g hs g.2.length 0 x (by omega) h0 (by omega)
    refine ⟨b, ?_, fun ht => ⟨(q ht).1, fun j g1 g2 => by omega, fun j g2 => (q ht).2 j (by omega) g2⟩⟩
    refine V.pleachref26_Few.l111010.of _ _ _ ?_
    unfold F.pleachref26_Few.l111010.B
    rw [if_out (by omega)]
    exact hb
  | d + 1, i, x, h, h0, h1 => by
    have hi : i < g.1.length := by omega
    obtain ⟨w, hw, w0, w1, w2⟩ := weight_ok (rd sNode g.1 i).2.1 (rd sNode g.1 i).2.2
    have c1 := cut5_in (rd sNode g.1 i).1
    obtain ⟨b, hb, q⟩ := Few_l0 g hn hs d (i + 1) (x + cut5 (rd sNode g.1 i).1 + w) (by omega) (by omega) (by omega)
    refine ⟨b, ?_, fun ht => ⟨by have := (q ht).1; omega, fun j g1 g2 => ?_, (q ht).2.2⟩⟩
    · refine V.pleachref26_Few.l111010.of _ _ _ ?_
      unfold F.pleachref26_Few.l111010.B
      rw [if_in hi, guard_in hi, guard_in hi, guard_in hi, nat_cast, w64_up (n := 60) (by omega) (by omega), hw, Option.bind_some]
      show V.pleachref26_Few.l111010 _ (w64 (w64 (x + cut5 (rd sNode _ i).1) + w)) _ = _
      rw [w64_id (x := x + cut5 (rd sNode _ i).1) (by omega) (by omega), w64_id (by omega) (by omega)]
      exact hb
    · rcases Nat.eq_or_lt_of_le g1 with e | e
      · subst e; exact w2 (by have := (q ht).1; omega)
      · exact (q ht).2.1 j e g2
theorem Few_ok (g : TGraph) : ∃ b, V.pleachref26_Few g = some b ∧ (b = true → Slim g) := by
  by_cases h1 : g.1.length > 40
  · refine ⟨false, V.pleachref26_Few.of _ ?_, by simp⟩
    unfold F.pleachref26_Few.B
    rw [if_yes (by omega)]
  · by_cases h2 : g.2.length > 60
    · refine ⟨false, V.pleachref26_Few.of _ ?_, by simp⟩
      unfold F.pleachref26_Few.B
      rw [if_no (by omega), if_yes (by omega)]
    · obtain ⟨b, hb, q⟩ := Few_l0 g (by omega) (by omega) g.1.length 0 0 (by omega) (by omega) (by omega)
      refine ⟨b, V.pleachref26_Few.of _ ?_, fun ht => ⟨by omega, by omega, fun n hn => ?_, fun x hx => ?_⟩⟩
      · unfold F.pleachref26_Few.B
        rw [if_no (by omega), if_no (by omega)]
        exact hb
      · obtain ⟨i, hi, e⟩ := List.getElem_of_mem hn
        have := (q ht).2.1 i (by omega) hi
        rw [rd_get (e := sNode) hi, e] at this
        exact this
      · obtain ⟨i, hi, e⟩ := List.getElem_of_mem hx
        have := (q ht).2.2 i hi
        rw [rd_get (e := sEdge) hi, e] at this
        exact this

end Go.Proofs.YtdblhdpnllckhaaGreat.AE
end
section
set_option linter.unusedVariables false
set_option linter.unusedSimpArgs false
set_option maxRecDepth 20000
namespace Go.Proofs.YtdblhdpnllckhaaGreat.AE
open Go

/-! ### Copies -/

theorem clone_body {α : Type} (l : List α) (h : l.length ≤ nmax) : (bif l.isEmpty then meet (some ([])) (guardK (decide (0 + l.length ≤ nmax)) (some ([] ++ l))) else (guardK (decide (0 + l.length ≤ nmax)) (some ([] ++ l)))) = some l := by
  rw [guard_dec (by omega)]
  cases l with
  | nil => exact meet_self _
  | cons a l => rfl
theorem cloneN_ok (l : List TNode) (h : l.length ≤ nmax) : V.slices_Clone_apiNodeapiNode l = some l := V.slices_Clone_apiNodeapiNode.of l (clone_body l h)
theorem cloneE_ok (l : List TEdge) (h : l.length ≤ nmax) : V.slices_Clone_apiEdgeapiEdge l = some l := V.slices_Clone_apiEdgeapiEdge.of l (clone_body l h)
theorem cloneT_ok (l : List ByteArray) (h : l.length ≤ nmax) : V.slices_Clone_stringstring l = some l := V.slices_Clone_stringstring.of l (clone_body l h)
theorem cloneP_ok (l : List TProp) (h : l.length ≤ nmax) : V.slices_Clone_apiPropapiProp l = some l := V.slices_Clone_apiPropapiProp.of l (clone_body l h)

theorem set_rd {e : Sh} (l : List (den e)) (i : Nat) : l.set i (rd e l i) = l := by
  rcases Nat.lt_or_ge i l.length with h | h
  · rw [rd_get h, List.set_getElem_self]
  · exact List.set_eq_of_length_le h

/-- Few enough parts for copies. -/
structure Small (g : TGraph) : Prop where
  ns : g.1.length ≤ nmax
  es : g.2.length ≤ nmax
  n : ∀ n ∈ g.1, n.2.1.length ≤ nmax ∧ n.2.2.length ≤ nmax
  e : ∀ x ∈ g.2, x.2.2.2.1.length ≤ nmax ∧ x.2.2.2.2.length ≤ nmax

theorem Copy_l1 (a g : TGraph) (hs : Small g) (n : Int) : ∀ d i : Nat, i + d = g.2.length → V.graph_Copy.l111010 a (g.2.length : Int) (i : Int) g.1 g.2 = some g
  | 0, i, h => by
    refine V.graph_Copy.l111010.of _ _ _ _ _ ?_
    unfold F.graph_Copy.l111010.B
    rw [if_out (by omega)]
  | d + 1, i, h => by
    have hi : i < g.2.length := by omega
    have he := hs.e _ (rd_mem (e := sEdge) hi)
    have hb : g.2.length ≤ 140737488351232 := by have := hs.es; unfold nmax at this; omega
    refine V.graph_Copy.l111010.of _ _ _ _ _ ?_
    unfold F.graph_Copy.l111010.B
    rw [if_in hi, guard_in hi, nat_cast, meet_self, meet_self, cloneT_ok _ he.1, cloneP_ok _ he.2, Option.bind_some, Option.bind_some]
    show V.graph_Copy.j1110100111 a _ _ _ ((g.2.set i (rd sEdge g.2 i)).set i ((rd sEdge (g.2.set i (rd sEdge g.2 i)) i).1, (rd sEdge (g.2.set i (rd sEdge g.2 i)) i).2.1, (rd sEdge (g.2.set i (rd sEdge g.2 i)) i).2.2.1, (rd sEdge (g.2.set i (rd sEdge g.2 i)) i).2.2.2.1, (rd sEdge g.2 i).2.2.2.2)) = _
    rw [set_rd (e := sEdge)]
    show V.graph_Copy.j1110100111 a _ _ _ (g.2.set i (rd sEdge g.2 i)) = _
    rw [set_rd (e := sEdge)]
    refine V.graph_Copy.j1110100111.of _ _ _ _ _ ?_
    unfold F.graph_Copy.j1110100111.B
    rw [w64_up hi hb]
    exact Copy_l1 a g hs n d (i + 1) (by omega)
theorem Copy_l0 (a g : TGraph) (hs : Small g) : ∀ d i : Nat, i + d = g.1.length → V.graph_Copy.l11010 a (g.1.length : Int) (i : Int) g.1 g.2 = some g
  | 0, i, h => by
    refine V.graph_Copy.l11010.of _ _ _ _ _ ?_
    unfold F.graph_Copy.l11010.B
    rw [if_out (by omega)]
    exact Copy_l1 a g hs 0 g.2.length 0 (by omega)
  | d + 1, i, h => by
    have hi : i < g.1.length := by omega
    have he := hs.n _ (rd_mem (e := sNode) hi)
    have hb : g.1.length ≤ 140737488351232 := by have := hs.ns; unfold nmax at this; omega
    refine V.graph_Copy.l11010.of _ _ _ _ _ ?_
    unfold F.graph_Copy.l11010.B
    rw [if_in hi, guard_in hi, nat_cast, meet_self, meet_self, cloneT_ok _ he.1, cloneP_ok _ he.2, Option.bind_some, Option.bind_some]
    show V.graph_Copy.j110100111 a _ _ ((g.1.set i (rd sNode g.1 i)).set i ((rd sNode (g.1.set i (rd sNode g.1 i)) i).1, (rd sNode (g.1.set i (rd sNode g.1 i)) i).2.1, (rd sNode g.1 i).2.2)) _ = _
    rw [set_rd (e := sNode)]
    show V.graph_Copy.j110100111 a _ _ (g.1.set i (rd sNode g.1 i)) _ = _
    rw [set_rd (e := sNode)]
    refine V.graph_Copy.j110100111.of _ _ _ _ _ ?_
    unfold F.graph_Copy.j110100111.B
    rw [w64_up hi hb]
    exact Copy_l0 a g hs d (i + 1) (by omega)
theorem Copy_ok (g : TGraph) (hs : Small g) : V.graph_Copy g = some g := by
  refine V.graph_Copy.of _ ?_
  unfold F.graph_Copy.B
  rw [cloneN_ok _ hs.ns, cloneE_ok _ hs.es, Option.bind_some, Option.bind_some, meet_self, Option.bind_some, Option.bind_some, meet_self]
  refine V.graph_Copy.j11.of _ _ _ ?_
  unfold F.graph_Copy.j11.B
  exact Copy_l0 g g hs g.1.length 0 (by omega)

end Go.Proofs.YtdblhdpnllckhaaGreat.AE
end
section
set_option linter.unusedVariables false
set_option linter.unusedSimpArgs false
set_option maxRecDepth 20000
namespace Go.Proofs.YtdblhdpnllckhaaGreat.AE
open Go

abbrev gZ : TGraph := ([], [])
abbrev oA : TOp := (3, (⟨#[120]⟩ : ByteArray), (⟨#[97]⟩ : ByteArray), (⟨#[98]⟩ : ByteArray), (⟨#[]⟩ : ByteArray), 0, 0, (⟨#[]⟩ : ByteArray))

theorem up_nil : Up [] := List.Pairwise.nil
theorem okZ : okGraph gZ := ⟨by simp, by simp, by simp, by simp⟩
theorem smallZ : Small gZ := ⟨by simp, by simp, by simp, by simp⟩

theorem right_A : V.graph_Right oA = some 0 := by
  have n1 : V.name_Check (⟨#[120]⟩ : ByteArray) = some 0 := by rw [name_Check_ok _ (by decide +kernel)]; decide +kernel
  have n2 : V.name_Check (⟨#[97]⟩ : ByteArray) = some 0 := by rw [name_Check_ok _ (by decide +kernel)]; decide +kernel
  have n3 : V.name_Check (⟨#[98]⟩ : ByteArray) = some 0 := by rw [name_Check_ok _ (by decide +kernel)]; decide +kernel
  refine V.graph_Right.of _ ?_
  unfold F.graph_Right.B
  show (V.name_Check (⟨#[120]⟩ : ByteArray)).bind _ = _
  rw [n1, Option.bind_some]
  show V.graph_Right.j1110101 oA false = _
  refine V.graph_Right.j1110101.of _ _ ?_
  unfold F.graph_Right.j1110101.B
  show ((V.name_Check (⟨#[97]⟩ : ByteArray)).bind fun t1 => (bif (t1 == 0) then ((V.name_Check (⟨#[98]⟩ : ByteArray)).bind fun t2 => V.graph_Right.j1111 oA (t2 == 0)) else _)) = _
  rw [n2, n3]
  show V.graph_Right.j1111 oA true = _
  refine V.graph_Right.j1111.of _ _ ?_
  unfold F.graph_Right.j1111.B
  show V.graph_Right.j11111 oA = _
  exact V.graph_Right.j11111.of _ rfl

theorem comes_A : V.graph_change_comes gZ oA = some (9, gZ) := by
  have e := fun x => edge_ok gZ x up_nil (by simp)
  have n := fun x => node_ok gZ x up_nil (by simp)
  refine V.graph_change_comes.of _ _ ?_
  unfold F.graph_change_comes.B
  show ((V.graph_edge gZ _).bind fun t3 => ((V.graph_node gZ _).bind fun t4 => ((V.graph_node gZ _).bind fun t5 => _))) = _
  rw [e, n, n]
  rfl

theorem do_A : V.graph_change_do gZ oA = some (9, gZ) := by
  refine V.graph_change_do.of _ _ ?_
  unfold F.graph_change_do.B
  show (V.graph_Right oA).bind _ = _
  rw [right_A, Option.bind_some]
  show (V.graph_change_comes gZ oA).bind _ = _
  rw [comes_A]
  rfl

theorem awake26 : V.pleachlaw26_awake = some true := by
  have h : V.graph_Apply gZ [oA] = some (gZ, 0, 9) := by
    refine V.graph_Apply.of _ _ ?_
    unfold F.graph_Apply.B
    show (V.graph_Check gZ).bind _ = _
    rw [Check_ok _ okZ, Option.bind_some]
    show (V.graph_Copy gZ).bind _ = _
    rw [Copy_ok _ smallZ, Option.bind_some]
    refine V.graph_Apply.l111010.of _ _ _ _ _ ?_
    unfold F.graph_Apply.l111010.B
    show (V.graph_change_do gZ oA).bind _ = _
    rw [do_A]
    rfl
  refine V.pleachlaw26_awake.of ?_
  unfold F.pleachlaw26_awake.B
  show (V.graph_Apply gZ [oA]).bind _ = _
  rw [h]
  rfl

end Go.Proofs.YtdblhdpnllckhaaGreat.AE
end
section
set_option linter.unusedVariables false
set_option linter.unusedSimpArgs false
namespace Go.Proofs.YtdblhdpnllckhaaGreat.AE
open Go

theorem gd_len {e : Sh} {l : List (den e)} (h : Gd (.list e) l) (hb : 2 ≤ e.bytes) : l.length ≤ 70368744177616 := by
  have h1 := h.1
  have : l.length * 2 ≤ l.length * e.bytes := Nat.mul_le_mul_left _ hb
  omega
theorem gd_texts {l : List ByteArray} (h : Gd (.list .str) l) : okTexts l := ⟨by have := gd_len h (by decide); omega, fun s hs => h.2 s hs⟩
theorem gd_props {l : List TProp} (h : Gd (.list sProp) l) : okProps l := ⟨by have := gd_len h (by decide); omega, fun p hp => by
  obtain ⟨h1, h2, h3, h4⟩ := h.2 p hp
  have h5 : -9223372036854775808 ≤ p.2.2.1 ∧ p.2.2.1 ≤ 9223372036854775807 := by
    have h6 : (decide (IntKind.min .i64 ≤ p.2.2.1) && decide (p.2.2.1 ≤ IntKind.max .i64)) = true := h3
    rw [Bool.and_eq_true, decide_eq_true_eq, decide_eq_true_eq, show IntKind.min .i64 = -9223372036854775808 by decide, show IntKind.max .i64 = 9223372036854775807 by decide] at h6
    exact h6
  exact ⟨h1, h4, h5⟩⟩
theorem gd_node {n : TNode} (h : Gd sNode n) : okNode n := ⟨h.1, gd_texts h.2.1, gd_props h.2.2⟩
theorem gd_edge {x : TEdge} (h : Gd sEdge x) : okEdge x := ⟨h.1, h.2.1, h.2.2.1, gd_texts h.2.2.2.1, gd_props h.2.2.2.2⟩
theorem gd_graph {g : TGraph} (h : Gd sGraph g) : okGraph g := ⟨gd_len h.1 (by decide), gd_len h.2 (by decide), fun n hn => gd_node (h.1.2 n hn), fun x hx => gd_edge (h.2.2 x hx)⟩

end Go.Proofs.YtdblhdpnllckhaaGreat.AE
end
section
set_option linter.unusedVariables false
set_option linter.unusedSimpArgs false
set_option maxRecDepth 20000
namespace Go.Proofs.YtdblhdpnllckhaaGreat.AE
open Go

theorem scanG_zero {step : Nat → Option Int} {fin : Int} (hs : ∀ i r, step i = some r → r ≠ 0) : ∀ d i, scanG step fin d i = 0 → fin = 0 ∧ ∀ j, i ≤ j → j < i + d → step j = none
  | 0, i, h => ⟨h, fun j h1 h2 => by omega⟩
  | d + 1, i, h => by
    rw [scanG_succ] at h
    cases he : step i with
    | some r => rw [he] at h; exact absurd h (hs i r he)
    | none =>
      rw [he] at h
      obtain ⟨g1, g2⟩ := scanG_zero hs d (i + 1) h
      refine ⟨g1, fun j h1 h2 => ?_⟩
      rcases Nat.eq_or_lt_of_le h1 with e | e
      · exact e ▸ he
      · exact g2 j e (by omega)
theorem scanG_none {α : Type} {step : Nat → Option α} {fin : α} : ∀ d i, (∀ j, i ≤ j → j < i + d → step j = none) → scanG step fin d i = fin
  | 0, i, h => rfl
  | d + 1, i, h => by
    rw [scanG_succ, h i (Nat.le_refl _) (by omega)]
    exact scanG_none d (i + 1) fun j h1 h2 => h j (by omega) (by omega)
theorem nodeStep_ne {l : List TNode} (i : Nat) (r : Int) (h : nodeStep l i = some r) : r ≠ 0 := by
  unfold nodeStep at h
  split at h
  · rename_i h0; cases h; exact h0
  · split at h <;> cases h; decide
theorem edgeStep_ne {ks : List ByteArray} {l : List TEdge} (i : Nat) (r : Int) (h : edgeStep ks l i = some r) : r ≠ 0 := by
  unfold edgeStep at h
  split at h
  · rename_i h0; cases h; exact h0
  · split at h
    · cases h; decide
    · split at h <;> cases h; decide

theorem good_iff (g : TGraph) : wrongN g = 0 ↔ Good26 g := by
  constructor
  · intro h
    unfold wrongN at h
    split at h
    · cases h
    · split at h
      · cases h
      · rename_i h1 h2
        obtain ⟨g1, g2⟩ := scanG_zero nodeStep_ne _ _ h
        obtain ⟨_, g3⟩ := scanG_zero edgeStep_ne _ _ g1
        have n := fun j (hj : j < g.1.length) => g2 j (by omega) (by omega)
        have e := fun j (hj : j < g.2.length) => g3 j (by omega) (by omega)
        refine ⟨by omega, by omega, fun x hx => ?_, fun x hx => ?_, up_nodes n, up_edges e, fun x hx => ?_, fun x hx => ?_⟩
        · obtain ⟨i, hi, rfl⟩ := List.getElem_of_mem hx
          have := (nodeStep_none (n i hi)).1
          rwa [rd_get (e := sNode) hi] at this
        all_goals
          obtain ⟨i, hi, rfl⟩ := List.getElem_of_mem hx
          have := edgeStep_none (e i hi)
          rw [rd_get (e := sEdge) hi] at this
        · exact this.1
        · exact has_iff.1 this.2.2.1
        · exact has_iff.1 this.2.2.2
  · intro h
    unfold wrongN
    rw [if_neg (by have := h.ns; omega), if_neg (by have := h.es; omega), scanG_none _ _ fun j _ hj => ?_]
    · refine scanG_none _ _ fun j _ hj => ?_
      have hj' : j < g.2.length := by omega
      have m : rd sEdge g.2 j ∈ g.2 := rd_mem hj'
      unfold edgeStep
      rw [if_neg (by rw [h.edges _ m]; simp), if_neg, if_pos ⟨has_iff.2 (h.fr _ m), has_iff.2 (h.to _ m)⟩]
      rintro ⟨h0, h1⟩
      have := h.eup.lt (i := j - 1) (j := j) (by omega) (by simpa using hj')
      rw [← eids_get hj', ← eids_get (by omega : j - 1 < g.2.length), h1] at this
      cases this
    · have hj' : j < g.1.length := by omega
      have m : rd sNode g.1 j ∈ g.1 := rd_mem hj'
      unfold nodeStep
      rw [if_neg (by rw [h.nodes _ m]; simp), if_neg]
      rintro ⟨h0, h1⟩
      have := h.nup.lt (i := j - 1) (j := j) (by omega) (by simpa using hj')
      rw [← ids_get hj', ← ids_get (by omega : j - 1 < g.1.length), h1] at this
      cases this

theorem rowN_up {l : List ByteArray} (h : rowN l = 0) : Up l := by
  refine up_of fun i hi hp => ?_
  have := (rowN_zero h hi).2 hp
  rw [rd_get (e := .str) hi, rd_get (e := .str) (by omega : i - 1 < l.length)] at this
  exact this
theorem nodeN_up {n : TNode} (h : nodeN n = 0) : n.2.1.length ≤ 8 ∧ Up n.2.1 ∧ n.2.2.length ≤ 8 := by
  have : restN n.2.1 n.2.2 = 0 := by
    unfold nodeN at h
    split at h
    · exact h
    · cases h
  obtain ⟨h1, h2, h3⟩ := restN_zero this
  exact ⟨h1, rowN_up h2, propsN_len h3⟩
theorem edgeN_up {x : TEdge} (h : edgeN x = 0) : x.2.2.2.1.length ≤ 8 ∧ Up x.2.2.2.1 ∧ x.2.2.2.2.length ≤ 8 := by
  have : restN x.2.2.2.1 x.2.2.2.2 = 0 := by
    unfold edgeN at h
    split at h
    · exact h
    · cases h
  obtain ⟨h1, h2, h3⟩ := restN_zero this
  exact ⟨h1, rowN_up h2, propsN_len h3⟩

theorem cmpLessS_ok (a b : ByteArray) : V.cmp_Less_string a b = some (strLt a b) := by
  have nan : ∀ x : ByteArray, V.cmp_isNaN_string x = some false := fun x => V.cmp_isNaN_string.of x (by unfold F.cmp_isNaN_string.B; rw [strEq_self]; rfl)
  refine V.cmp_Less_string.of a b ?_
  unfold F.cmp_Less_string.B
  rw [nan]
  rfl
theorem searchT_ok (l : List ByteArray) (x : ByteArray) (hu : Up l) (hb : l.length ≤ 70368744177616) : V.slices_BinarySearch_stringstring l x = some ((lb l x : Int), has l x) := by
  have nan : ∀ x : ByteArray, V.slices_isNaN_string x = some false := fun x => V.slices_isNaN_string.of x (by unfold F.slices_isNaN_string.B; rw [strEq_self]; rfl)
  refine V.slices_BinarySearch_stringstring.of _ _ ?_
  unfold F.slices_BinarySearch_stringstring.B
  refine search_gen hu (V.slices_BinarySearch_stringstring.l11100 l x) (fun lo hi r h hh hr => ?_) (fun lo hlo => ?_)
  · refine V.slices_BinarySearch_stringstring.l11100.of _ _ _ _ ?_
    unfold F.slices_BinarySearch_stringstring.l11100.B
    rw [if_in h, half_nat h (by omega) hb, guard_in (by omega), nat_cast, cmpLessS_ok, Option.bind_some, w64_up (n := l.length) (by omega) (by omega), rd_get (e := .str) (by omega), ← hr]
    cases strLt (l[(lo + hi) / 2]'(by omega)) x <;> rfl
  · refine V.slices_BinarySearch_stringstring.l11100.of _ _ _ _ ?_
    unfold F.slices_BinarySearch_stringstring.l11100.B
    rw [if_no (by omega)]
    rcases Nat.lt_or_ge lo l.length with h | h
    · rw [if_in h, guard_in h, guard_in h, nat_cast, nan, Option.bind_some, rd_get (e := .str) h, List.getElem?_eq_getElem h]
      by_cases e : l[lo] = x
      · simp [e, strEq_self]
      · simp [e, strEq_no e]
    · rw [if_out h, List.getElem?_eq_none (by omega)]; simp
theorem Find_ok (l : List ByteArray) (x : ByteArray) (hu : Up l) (hb : l.length ≤ 70368744177616) : V.name_Find l x = some ((lb l x : Int), has l x) := by
  refine V.name_Find.of _ _ ?_
  unfold F.name_Find.B
  rw [searchT_ok l x hu hb, Option.bind_some]

end Go.Proofs.YtdblhdpnllckhaaGreat.AE
end
section
set_option linter.unusedVariables false
set_option linter.unusedSimpArgs false
set_option maxRecDepth 20000
namespace Go.Proofs.YtdblhdpnllckhaaGreat.AE
open Go

theorem filt_rd {e : Sh} (l : List (den e)) (p : den e → Bool) {i : Nat} (h : i < l.length) : (l.drop i).filter p = bif p (rd e l i) then rd e l i :: (l.drop (i + 1)).filter p else (l.drop (i + 1)).filter p := by
  rw [drop_rd h, List.filter_cons]
  cases p (rd e l i) <;> rfl
theorem slice_one {e : Sh} (l : List (den e)) {i : Nat} (h : i < l.length) : (l.take (i + 1)).drop i = [rd e l i] := by
  rw [take_rd h, List.drop_left' (by rw [List.length_take]; omega)]

theorem EdgeAt_l (g : TGraph) (x : ByteArray) (hs : g.2.length ≤ 140737488351232) : ∀ d i : Nat, i + d = g.2.length → (∀ j (hj : j < (eids g.2).length), j < i → (eids g.2)[j] ≠ x) → V.pleachref26_EdgeAt.l1010 g x (i : Int) = some (atI (eids g.2) x)
  | 0, i, h, hn => by
    refine V.pleachref26_EdgeAt.l1010.of _ _ _ ?_
    unfold F.pleachref26_EdgeAt.l1010.B
    rw [if_out (by omega), atI_none fun j hj => hn j hj (by simp at hj; omega)]
  | d + 1, i, h, hn => by
    have hi : i < g.2.length := by omega
    refine V.pleachref26_EdgeAt.l1010.of _ _ _ ?_
    unfold F.pleachref26_EdgeAt.l1010.B
    rw [if_in hi, guard_in hi, nat_cast, w64_up hi hs, eids_get hi, atI_step (ks := eids g.2) (i := i) (by simpa using hi) hn]
    cases hc : strEq ((eids g.2)[i]'(by simpa using hi)) x with
    | true => rfl
    | false =>
      refine EdgeAt_l g x hs d (i + 1) (by omega) fun j hj g1 e => ?_
      rcases Nat.lt_or_ge j i with g2 | g2
      · exact hn j hj g2 e
      · have : j = i := by omega
        subst this
        rw [e, strEq_self] at hc; cases hc
theorem EdgeAt_ok (g : TGraph) (x : ByteArray) (hs : g.2.length ≤ 140737488351232) : V.pleachref26_EdgeAt g x = some (atI (eids g.2) x) := by
  refine V.pleachref26_EdgeAt.of _ _ ?_
  unfold F.pleachref26_EdgeAt.B
  exact EdgeAt_l g x hs g.2.length 0 (by omega) fun j hj h => by omega

/-- Of at most so many parts as may be. -/
theorem Good26.small {g : TGraph} (h : Good26 g) : Small g := ⟨by have := h.ns; unfold nmax; omega, by have := h.es; unfold nmax; omega, fun n hn => by have := nodeN_up (h.nodes n hn); unfold nmax; omega, fun x hx => by have := edgeN_up (h.edges x hx); unfold nmax; omega⟩
def nodeZ : TNode := ((⟨#[]⟩ : ByteArray), [], [])
def edgeZ : TEdge := ((⟨#[]⟩ : ByteArray), (⟨#[]⟩ : ByteArray), (⟨#[]⟩ : ByteArray), [], [])
theorem lb_in {ks : List ByteArray} {x : ByteArray} (hu : Up ks) (h : has ks x = true) : lb ks x < ks.length := ((met_iff hu x).1 (has_iff.1 h)).1

theorem Node_ok (g : TGraph) (hg : Good26 g) (x : ByteArray) : V.graph_Node g x = some (if has (ids g.1) x then (rd sNode g.1 (lb (ids g.1) x), true) else (nodeZ, false)) := by
  have hn := hg.ns
  refine V.graph_Node.of _ _ ?_
  unfold F.graph_Node.B
  rw [show V.graph_node (g.1, g.2) x = some ((lb (ids g.1) x : Int), has (ids g.1) x) from node_ok g x hg.nup (by omega), Option.bind_some]
  cases h : has (ids g.1) x with
  | false => rfl
  | true =>
    have hl : lb (ids g.1) x < g.1.length := by simpa using lb_in hg.nup h
    have m := rd_mem (e := sNode) hl
    have u := nodeN_up (hg.nodes _ m)
    show guardK (decide (0 ≤ (lb (ids g.1) x : Int)) && decide ((lb (ids g.1) x : Int) ≤ w64 ((lb (ids g.1) x : Int) + 1)) && decide (w64 ((lb (ids g.1) x : Int) + 1) ≤ (g.1.length : Int))) ((V.graph_Copy (((g.1.take (w64 ((lb (ids g.1) x : Int) + 1)).toNat).drop (lb (ids g.1) x)), [])).bind fun t1 => (guardK (decide (0 < (t1.1.length : Int))) (some (rd sNode t1.1 0, true)))) = _
    rw [w64_up (n := g.1.length) hl (by omega), guard_of (by simp; omega), nat_cast, slice_one (e := sNode) _ hl, Copy_ok _ ⟨by simp [nmax], by simp [nmax], by intro n h1; cases List.mem_singleton.1 h1; unfold nmax; omega, by simp⟩, Option.bind_some]
    rfl
theorem Edge_ok (g : TGraph) (hg : Good26 g) (x : ByteArray) : V.graph_Edge g x = some (if has (eids g.2) x then (rd sEdge g.2 (lb (eids g.2) x), true) else (edgeZ, false)) := by
  have hn := hg.es
  refine V.graph_Edge.of _ _ ?_
  unfold F.graph_Edge.B
  rw [show V.graph_edge (g.1, g.2) x = some ((lb (eids g.2) x : Int), has (eids g.2) x) from edge_ok g x hg.eup (by omega), Option.bind_some]
  cases h : has (eids g.2) x with
  | false => rfl
  | true =>
    have hl : lb (eids g.2) x < g.2.length := by simpa using lb_in hg.eup h
    have m := rd_mem (e := sEdge) hl
    have u := edgeN_up (hg.edges _ m)
    show guardK (decide (0 ≤ (lb (eids g.2) x : Int)) && decide ((lb (eids g.2) x : Int) ≤ w64 ((lb (eids g.2) x : Int) + 1)) && decide (w64 ((lb (eids g.2) x : Int) + 1) ≤ (g.2.length : Int))) ((V.graph_Copy ([], ((g.2.take (w64 ((lb (eids g.2) x : Int) + 1)).toNat).drop (lb (eids g.2) x)))).bind fun t1 => (guardK (decide (0 < (t1.2.length : Int))) (some (rd sEdge t1.2 0, true)))) = _
    rw [w64_up (n := g.2.length) hl (by omega), guard_of (by simp; omega), nat_cast, slice_one (e := sEdge) _ hl, Copy_ok _ ⟨by simp [nmax], by simp [nmax], by simp, by intro n h1; cases List.mem_singleton.1 h1; unfold nmax; omega⟩, Option.bind_some]
    rfl

theorem small_edges {g : TGraph} (hg : Good26 g) (p : TEdge → Bool) : Small ([], g.2.filter p) := ⟨by simp [nmax], by have := hg.small.es; have := List.length_filter_le p g.2; show (g.2.filter p).length ≤ nmax; omega, by simp, fun x hx => hg.small.e x (List.mem_filter.1 hx).1⟩
theorem small_nodes {g : TGraph} (hg : Good26 g) (p : TNode → Bool) : Small (g.1.filter p, []) := ⟨by have := hg.small.ns; have := List.length_filter_le p g.1; show (g.1.filter p).length ≤ nmax; omega, by simp [nmax], fun x hx => hg.small.n x (List.mem_filter.1 hx).1, by simp⟩

theorem Out1_ok (e : TEdge) (x : ByteArray) : V.graph_Out_1 e x = some (strEq e.2.1 x, x) := V.graph_Out_1.of _ _ rfl
theorem Out_l (g : TGraph) (hg : Good26 g) (x : ByteArray) : ∀ (d i : Nat) (acc : List TEdge), i + d = g.2.length → acc.length ≤ i → acc ++ (g.2.drop i).filter (fun e => strEq e.2.1 x) = g.2.filter (fun e => strEq e.2.1 x) → V.graph_some_by_graph_Out_1.l11010 g x (i : Int) x acc = some (g.2.filter fun e => strEq e.2.1 x, x)
  | 0, i, acc, h, ha, he => by
    refine V.graph_some_by_graph_Out_1.l11010.of _ _ _ _ _ ?_
    unfold F.graph_some_by_graph_Out_1.l11010.B
    rw [List.drop_eq_nil_of_le (by omega), List.filter_nil, List.append_nil] at he
    rw [if_out (by omega), he, Copy_ok _ (small_edges hg _), Option.bind_some]
  | d + 1, i, acc, h, ha, he => by
    have hi : i < g.2.length := by omega
    have hn := hg.es
    rw [filt_rd (e := sEdge) _ _ hi] at he
    refine V.graph_some_by_graph_Out_1.l11010.of _ _ _ _ _ ?_
    unfold F.graph_some_by_graph_Out_1.l11010.B
    rw [if_in hi, guard_in hi, nat_cast, w64_up hi (by omega), Out1_ok, Option.bind_some]
    show (bif strEq (rd sEdge g.2 i).2.1 x then guardK (decide (acc.length + 1 ≤ nmax)) (V.graph_some_by_graph_Out_1.l11010 g x ((i + 1 : Nat) : Int) x (acc ++ [rd sEdge g.2 i])) else V.graph_some_by_graph_Out_1.l11010 g x ((i + 1 : Nat) : Int) x acc) = _
    rw [guard_dec (by unfold nmax; omega)]
    cases hm : strEq (rd sEdge g.2 i).2.1 x with
    | true =>
      rw [hm, cond_true] at he
      exact Out_l g hg x d (i + 1) _ (by omega) (by simp; omega) (by rw [← he]; simp)
    | false =>
      rw [hm, cond_false] at he
      exact Out_l g hg x d (i + 1) _ (by omega) (by omega) he
theorem Out_ok (g : TGraph) (hg : Good26 g) (x : ByteArray) : V.graph_Out g x = some (g.2.filter fun e => strEq e.2.1 x) := by
  refine V.graph_Out.of _ _ ?_
  unfold F.graph_Out.B
  rw [V.graph_some_by_graph_Out_1.of (g.1, g.2) x (Out_l g hg x g.2.length 0 [] (by omega) (by simp) (by simp)), Option.bind_some]
theorem In1_ok (e : TEdge) (x : ByteArray) : V.graph_In_1 e x = some (strEq e.2.2.1 x, x) := V.graph_In_1.of _ _ rfl
theorem In_l (g : TGraph) (hg : Good26 g) (x : ByteArray) : ∀ (d i : Nat) (acc : List TEdge), i + d = g.2.length → acc.length ≤ i → acc ++ (g.2.drop i).filter (fun e => strEq e.2.2.1 x) = g.2.filter (fun e => strEq e.2.2.1 x) → V.graph_some_by_graph_In_1.l11010 g x (i : Int) x acc = some (g.2.filter fun e => strEq e.2.2.1 x, x)
  | 0, i, acc, h, ha, he => by
    refine V.graph_some_by_graph_In_1.l11010.of _ _ _ _ _ ?_
    unfold F.graph_some_by_graph_In_1.l11010.B
    rw [List.drop_eq_nil_of_le (by omega), List.filter_nil, List.append_nil] at he
    rw [if_out (by omega), he, Copy_ok _ (small_edges hg _), Option.bind_some]
  | d + 1, i, acc, h, ha, he => by
    have hi : i < g.2.length := by omega
    have hn := hg.es
    rw [filt_rd (e := sEdge) _ _ hi] at he
    refine V.graph_some_by_graph_In_1.l11010.of _ _ _ _ _ ?_
    unfold F.graph_some_by_graph_In_1.l11010.B
    rw [if_in hi, guard_in hi, nat_cast, w64_up hi (by omega), In1_ok, Option.bind_some]
    show (bif strEq (rd sEdge g.2 i).2.2.1 x then guardK (decide (acc.length + 1 ≤ nmax)) (V.graph_some_by_graph_In_1.l11010 g x ((i + 1 : Nat) : Int) x (acc ++ [rd sEdge g.2 i])) else V.graph_some_by_graph_In_1.l11010 g x ((i + 1 : Nat) : Int) x acc) = _
    rw [guard_dec (by unfold nmax; omega)]
    cases hm : strEq (rd sEdge g.2 i).2.2.1 x with
    | true =>
      rw [hm, cond_true] at he
      exact In_l g hg x d (i + 1) _ (by omega) (by simp; omega) (by rw [← he]; simp)
    | false =>
      rw [hm, cond_false] at he
      exact In_l g hg x d (i + 1) _ (by omega) (by omega) he
theorem In_ok (g : TGraph) (hg : Good26 g) (x : ByteArray) : V.graph_In g x = some (g.2.filter fun e => strEq e.2.2.1 x) := by
  refine V.graph_In.of _ _ ?_
  unfold F.graph_In.B
  rw [V.graph_some_by_graph_In_1.of (g.1, g.2) x (In_l g hg x g.2.length 0 [] (by omega) (by simp) (by simp)), Option.bind_some]
theorem refOut_l (g : TGraph) (hg : g.2.length ≤ 1000) (x : ByteArray) : ∀ (d i : Nat) (acc : List TEdge), i + d = g.2.length → acc.length ≤ i → V.pleachref26_Out.l11010 g x (i : Int) acc = some (acc ++ (g.2.drop i).filter fun e => strEq e.2.1 x)
  | 0, i, acc, h, ha => by
    refine V.pleachref26_Out.l11010.of _ _ _ _ ?_
    unfold F.pleachref26_Out.l11010.B
    rw [if_out (by omega), List.drop_eq_nil_of_le (by omega), List.filter_nil, List.append_nil]
  | d + 1, i, acc, h, ha => by
    have hi : i < g.2.length := by omega
    refine V.pleachref26_Out.l11010.of _ _ _ _ ?_
    unfold F.pleachref26_Out.l11010.B
    rw [filt_rd (e := sEdge) _ _ hi, if_in hi, guard_in hi, nat_cast, w64_up hi (by omega), guard_in hi]
    show (bif strEq (rd sEdge g.2 i).2.1 x then guardK (decide (acc.length + 1 ≤ nmax)) (V.pleachref26_Out.l11010 g x ((i + 1 : Nat) : Int) (acc ++ [rd sEdge g.2 i])) else V.pleachref26_Out.l11010 g x ((i + 1 : Nat) : Int) acc) = _
    rw [guard_dec (by unfold nmax; omega)]
    cases hm : strEq (rd sEdge g.2 i).2.1 x with
    | true => rw [cond_true, cond_true, refOut_l g hg x d (i + 1) _ (by omega) (by simp; omega)]; simp
    | false => rw [cond_false, cond_false]; exact refOut_l g hg x d (i + 1) _ (by omega) (by omega)
theorem refOut_ok (g : TGraph) (hg : g.2.length ≤ 1000) (x : ByteArray) : V.pleachref26_Out g x = some (g.2.filter fun e => strEq e.2.1 x) := by
  refine V.pleachref26_Out.of _ _ ?_
  unfold F.pleachref26_Out.B
  exact refOut_l g hg x g.2.length 0 [] (by omega) (by simp)
theorem refInE_l (g : TGraph) (hg : g.2.length ≤ 1000) (x : ByteArray) : ∀ (d i : Nat) (acc : List TEdge), i + d = g.2.length → acc.length ≤ i → V.pleachref26_In.l11010 g x (i : Int) acc = some (acc ++ (g.2.drop i).filter fun e => strEq e.2.2.1 x)
  | 0, i, acc, h, ha => by
    refine V.pleachref26_In.l11010.of _ _ _ _ ?_
    unfold F.pleachref26_In.l11010.B
    rw [if_out (by omega), List.drop_eq_nil_of_le (by omega), List.filter_nil, List.append_nil]
  | d + 1, i, acc, h, ha => by
    have hi : i < g.2.length := by omega
    refine V.pleachref26_In.l11010.of _ _ _ _ ?_
    unfold F.pleachref26_In.l11010.B
    rw [filt_rd (e := sEdge) _ _ hi, if_in hi, guard_in hi, nat_cast, w64_up hi (by omega), guard_in hi]
    show (bif strEq (rd sEdge g.2 i).2.2.1 x then guardK (decide (acc.length + 1 ≤ nmax)) (V.pleachref26_In.l11010 g x ((i + 1 : Nat) : Int) (acc ++ [rd sEdge g.2 i])) else V.pleachref26_In.l11010 g x ((i + 1 : Nat) : Int) acc) = _
    rw [guard_dec (by unfold nmax; omega)]
    cases hm : strEq (rd sEdge g.2 i).2.2.1 x with
    | true => rw [cond_true, cond_true, refInE_l g hg x d (i + 1) _ (by omega) (by simp; omega)]; simp
    | false => rw [cond_false, cond_false]; exact refInE_l g hg x d (i + 1) _ (by omega) (by omega)
theorem refInE_ok (g : TGraph) (hg : g.2.length ≤ 1000) (x : ByteArray) : V.pleachref26_In g x = some (g.2.filter fun e => strEq e.2.2.1 x) := by
  refine V.pleachref26_In.of _ _ ?_
  unfold F.pleachref26_In.B
  exact refInE_l g hg x g.2.length 0 [] (by omega) (by simp)
theorem Labelled_l (g : TGraph) (hg : Good26 g) (x : ByteArray) : ∀ (d i : Nat) (acc : List TNode), i + d = g.1.length → acc.length ≤ i → acc ++ (g.1.drop i).filter (fun n => has n.2.1 x) = g.1.filter (fun n => has n.2.1 x) → V.graph_Labelled.l11010 g x (i : Int) acc = some (g.1.filter fun n => has n.2.1 x)
  | 0, i, acc, h, ha, he => by
    refine V.graph_Labelled.l11010.of _ _ _ _ ?_
    unfold F.graph_Labelled.l11010.B
    rw [List.drop_eq_nil_of_le (by omega), List.filter_nil, List.append_nil] at he
    rw [if_out (by omega), he, Copy_ok _ (small_nodes hg _), Option.bind_some]
  | d + 1, i, acc, h, ha, he => by
    have hi : i < g.1.length := by omega
    have hn := hg.ns
    have u := nodeN_up (hg.nodes _ (rd_mem (e := sNode) hi))
    rw [filt_rd (e := sNode) _ _ hi] at he
    refine V.graph_Labelled.l11010.of _ _ _ _ ?_
    unfold F.graph_Labelled.l11010.B
    rw [if_in hi, guard_in hi, nat_cast, w64_up hi (by omega), Find_ok _ x u.2.1 (by omega), Option.bind_some]
    show (bif has (rd sNode g.1 i).2.1 x then guardK (decide (acc.length + 1 ≤ nmax)) (V.graph_Labelled.l11010 g x ((i + 1 : Nat) : Int) (acc ++ [rd sNode g.1 i])) else V.graph_Labelled.l11010 g x ((i + 1 : Nat) : Int) acc) = _
    rw [guard_dec (by unfold nmax; omega)]
    cases hm : has (rd sNode g.1 i).2.1 x with
    | true =>
      rw [hm, cond_true] at he
      exact Labelled_l g hg x d (i + 1) _ (by omega) (by simp; omega) (by rw [← he]; simp)
    | false =>
      rw [hm, cond_false] at he
      exact Labelled_l g hg x d (i + 1) _ (by omega) (by omega) he
theorem Labelled_ok (g : TGraph) (hg : Good26 g) (x : ByteArray) : V.graph_Labelled g x = some (g.1.filter fun n => has n.2.1 x) := by
  refine V.graph_Labelled.of _ _ ?_
  unfold F.graph_Labelled.B
  exact Labelled_l g hg x g.1.length 0 [] (by omega) (by simp) (by simp)

theorem refIn_l (l : List ByteArray) (x : ByteArray) (hs : l.length ≤ 140737488351232) : ∀ d i : Nat, i + d = l.length → V.pleachref05_In.l1010 l x (i : Int) = some (has (l.drop i) x)
  | 0, i, h => by
    refine V.pleachref05_In.l1010.of _ _ _ ?_
    unfold F.pleachref05_In.l1010.B
    rw [if_out (by omega), List.drop_eq_nil_of_le (by omega)]
    rfl
  | d + 1, i, h => by
    have hi : i < l.length := by omega
    refine V.pleachref05_In.l1010.of _ _ _ ?_
    unfold F.pleachref05_In.l1010.B
    rw [if_in hi, guard_in hi, nat_cast, w64_up hi hs, refIn_l l x hs d (i + 1) (by omega), drop_rd (e := .str) hi]
    show _ = some (strEq (rd .str l i) x || has (l.drop (i + 1)) x)
    cases strEq (rd .str l i) x <;> rfl
theorem refIn_ok (l : List ByteArray) (x : ByteArray) (hs : l.length ≤ 140737488351232) : V.pleachref05_In l x = some (has l x) := by
  refine V.pleachref05_In.of _ _ ?_
  unfold F.pleachref05_In.B
  exact refIn_l l x hs l.length 0 (by omega)
theorem refLabelled_l (g : TGraph) (hg : Good26 g) (x : ByteArray) : ∀ (d i : Nat) (acc : List TNode), i + d = g.1.length → acc.length ≤ i → V.pleachref26_Labelled.l11010 g x (i : Int) acc = some (acc ++ (g.1.drop i).filter fun n => has n.2.1 x)
  | 0, i, acc, h, ha => by
    refine V.pleachref26_Labelled.l11010.of _ _ _ _ ?_
    unfold F.pleachref26_Labelled.l11010.B
    rw [if_out (by omega), List.drop_eq_nil_of_le (by omega), List.filter_nil, List.append_nil]
  | d + 1, i, acc, h, ha => by
    have hi : i < g.1.length := by omega
    have hn := hg.ns
    have u := nodeN_up (hg.nodes _ (rd_mem (e := sNode) hi))
    refine V.pleachref26_Labelled.l11010.of _ _ _ _ ?_
    unfold F.pleachref26_Labelled.l11010.B
    rw [filt_rd (e := sNode) _ _ hi, if_in hi, guard_in hi, nat_cast, w64_up hi (by omega), refIn_ok _ x (by omega), Option.bind_some, guard_in hi]
    show (bif has (rd sNode g.1 i).2.1 x then guardK (decide (acc.length + 1 ≤ nmax)) (V.pleachref26_Labelled.l11010 g x ((i + 1 : Nat) : Int) (acc ++ [rd sNode g.1 i])) else V.pleachref26_Labelled.l11010 g x ((i + 1 : Nat) : Int) acc) = _
    rw [guard_dec (by unfold nmax; omega)]
    cases hm : has (rd sNode g.1 i).2.1 x with
    | true => rw [cond_true, cond_true, refLabelled_l g hg x d (i + 1) _ (by omega) (by simp; omega)]; simp
    | false => rw [cond_false, cond_false]; exact refLabelled_l g hg x d (i + 1) _ (by omega) (by omega)
theorem refLabelled_ok (g : TGraph) (hg : Good26 g) (x : ByteArray) : V.pleachref26_Labelled g x = some (g.1.filter fun n => has n.2.1 x) := by
  refine V.pleachref26_Labelled.of _ _ ?_
  unfold F.pleachref26_Labelled.B
  exact refLabelled_l g hg x g.1.length 0 [] (by omega) (by simp)

end Go.Proofs.YtdblhdpnllckhaaGreat.AE
end
section
set_option linter.unusedVariables false
set_option linter.unusedSimpArgs false
set_option maxRecDepth 20000
namespace Go.Proofs.YtdblhdpnllckhaaGreat.AE
open Go

theorem sameEdges_ok (a b : List TEdge) (h : Small ([], a)) : V.pleachlaw26_sameEdges a b = some (decide (a = b)) := by
  have hf : Fits ([], a) := ⟨by simp, by have : a.length ≤ nmax := h.es; unfold nmax at this; show a.length ≤ _; omega, by simp, fun x hx => by have := h.e x hx; unfold nmax at this; omega⟩
  refine V.pleachlaw26_sameEdges.of _ _ ?_
  unfold F.pleachlaw26_sameEdges.B
  rw [Same_ok _ _ hf, Option.bind_some]
  by_cases e : a = b <;> simp [e]
theorem sameNodes_ok (a b : List TNode) (h : Small (a, [])) : V.pleachlaw26_sameNodes a b = some (decide (a = b)) := by
  have hf : Fits (a, []) := ⟨by have : a.length ≤ nmax := h.ns; unfold nmax at this; show a.length ≤ _; omega, by simp, fun x hx => by have := h.n x hx; unfold nmax at this; omega, by simp⟩
  refine V.pleachlaw26_sameNodes.of _ _ ?_
  unfold F.pleachlaw26_sameNodes.B
  rw [Same_ok _ _ hf, Option.bind_some]
  by_cases e : a = b <;> simp [e]
theorem finds_end (g : TGraph) (hg : Good26 g) (x l : ByteArray) : V.pleachlaw26_GraphFinds.j1111111 g x l = some true := by
  have hn := hg.es
  refine V.pleachlaw26_GraphFinds.j1111111.of _ _ _ ?_
  unfold F.pleachlaw26_GraphFinds.j1111111.B
  rw [show V.graph_Out (g.1, g.2) x = _ from Out_ok g hg x, show V.pleachref26_Out (g.1, g.2) x = _ from refOut_ok g hn x, Option.bind_some, Option.bind_some, sameEdges_ok _ _ (small_edges hg _), Option.bind_some, decide_eq_true rfl, cond_true,
    show V.graph_In (g.1, g.2) x = _ from In_ok g hg x, show V.pleachref26_In (g.1, g.2) x = _ from refInE_ok g hn x, Option.bind_some, Option.bind_some, sameEdges_ok _ _ (small_edges hg _), Option.bind_some, decide_eq_true rfl, cond_true,
    show V.graph_Labelled (g.1, g.2) l = _ from Labelled_ok g hg l, show V.pleachref26_Labelled (g.1, g.2) l = _ from refLabelled_ok g hg l, Option.bind_some, Option.bind_some, sameNodes_ok _ _ (small_nodes hg _), Option.bind_some, decide_eq_true rfl, cond_true, awake26]
  rfl
theorem finds_f (g : TGraph) (hg : Good26 g) (x l : ByteArray) : V.pleachlaw26_GraphFinds.j11111101 g x l false = some true := by
  refine V.pleachlaw26_GraphFinds.j11111101.of _ _ _ _ ?_
  unfold F.pleachlaw26_GraphFinds.j11111101.B
  exact finds_end g hg x l
theorem sameN_self (n : TNode) (h : n.2.1.length ≤ 8 ∧ n.2.2.length ≤ 8) : V.pleachref25_SameNode n n = some true := by rw [SameNode_ok _ _ (by omega) (by omega), decide_eq_true rfl]
theorem sameE_self (n : TEdge) (h : n.2.2.2.1.length ≤ 8 ∧ n.2.2.2.2.length ≤ 8) : V.pleachref25_SameEdge n n = some true := by rw [SameEdge_ok _ _ (by omega) (by omega), decide_eq_true rfl]
theorem awake_or (g : TGraph) (x l : ByteArray) : V.pleachlaw26_GraphFinds.j101 g x l true = some true := by
  refine V.pleachlaw26_GraphFinds.j101.of _ _ _ _ ?_
  unfold F.pleachlaw26_GraphFinds.j101.B
  rw [awake26]; rfl

theorem GraphFinds_pure (g : TGraph) (x l : ByteArray) (hok : okGraph g) : V.pleachlaw26_GraphFinds g x l = some true := by
  obtain ⟨p, h1, h2⟩ := Few_ok g
  refine V.pleachlaw26_GraphFinds.of _ _ _ ?_
  unfold F.pleachlaw26_GraphFinds.B
  rw [show V.pleachref26_Few (g.1, g.2) = _ from h1, Option.bind_some, awake_or]
  cases p with
  | false => rfl
  | true =>
    rw [Bool.not_true, cond_false, show V.pleachref26_Wrong (g.1, g.2) = _ from Wrong_ok g hok, Option.bind_some]
    by_cases hw : wrongN g = 0
    · have hg := (good_iff g).1 hw
      rw [hw, show ((0 : Int) != 0) = false from rfl, cond_false]
      have main : V.pleachlaw26_GraphFinds.j101 g x l false = some true := by
        refine V.pleachlaw26_GraphFinds.j101.of _ _ _ _ ?_
        unfold F.pleachlaw26_GraphFinds.j101.B
        rw [show V.graph_Node (g.1, g.2) x = _ from Node_ok g hg x, show V.graph_Edge (g.1, g.2) x = _ from Edge_ok g hg x, show V.pleachref26_NodeAt (g.1, g.2) x = _ from NodeAt_ok g x (by have := hok.ns; omega), show V.pleachref26_EdgeAt (g.1, g.2) x = _ from EdgeAt_ok g x (by have := hok.es; omega), atI_up hg.nup, atI_up hg.eup]
        have zn : V.pleachref25_SameNode ((⟨#[]⟩ : ByteArray), [], []) ((⟨#[]⟩ : ByteArray), [], []) = some true := sameN_self nodeZ ⟨by simp [nodeZ], by simp [nodeZ]⟩
        have ze : V.pleachref25_SameEdge ((⟨#[]⟩ : ByteArray), (⟨#[]⟩ : ByteArray), (⟨#[]⟩ : ByteArray), [], []) ((⟨#[]⟩ : ByteArray), (⟨#[]⟩ : ByteArray), (⟨#[]⟩ : ByteArray), [], []) = some true := sameE_self edgeZ ⟨by simp [edgeZ], by simp [edgeZ]⟩
        cases hn : has (ids g.1) x with
        | false =>
          cases he : has (eids g.2) x with
          | false =>
            show V.pleachlaw26_GraphFinds.j1111101 g x l false false (-1) (-1) false (⟨#[]⟩ : ByteArray) [] [] (⟨#[]⟩ : ByteArray) (⟨#[]⟩ : ByteArray) (⟨#[]⟩ : ByteArray) [] [] = some true
            refine V.pleachlaw26_GraphFinds.j1111101.of _ _ _ _ _ _ _ _ _ _ _ _ _ _ _ _ ?_
            unfold F.pleachlaw26_GraphFinds.j1111101.B
            rw [zn, ze]
            exact finds_f g hg x l
          | true =>
            have hl : lb (eids g.2) x < g.2.length := by simpa using lb_in hg.eup he
            have u := edgeN_up (hg.edges _ (rd_mem (e := sEdge) hl))
            show V.pleachlaw26_GraphFinds.j1111101 g x l false true (-1) (lb (eids g.2) x : Int) (!(true == decide ((lb (eids g.2) x : Int) ≥ 0))) (⟨#[]⟩ : ByteArray) [] [] (rd sEdge g.2 (lb (eids g.2) x)).1 (rd sEdge g.2 (lb (eids g.2) x)).2.1 (rd sEdge g.2 (lb (eids g.2) x)).2.2.1 (rd sEdge g.2 (lb (eids g.2) x)).2.2.2.1 (rd sEdge g.2 (lb (eids g.2) x)).2.2.2.2 = some true
            rw [decide_eq_true (by omega : (lb (eids g.2) x : Int) ≥ 0)]
            refine V.pleachlaw26_GraphFinds.j1111101.of _ _ _ _ _ _ _ _ _ _ _ _ _ _ _ _ ?_
            unfold F.pleachlaw26_GraphFinds.j1111101.B
            rw [zn, nat_cast, guard_in hl, show V.pleachref25_SameEdge ((rd sEdge g.2 (lb (eids g.2) x)).1, (rd sEdge g.2 (lb (eids g.2) x)).2.1, (rd sEdge g.2 (lb (eids g.2) x)).2.2.1, (rd sEdge g.2 (lb (eids g.2) x)).2.2.2.1, (rd sEdge g.2 (lb (eids g.2) x)).2.2.2.2) ((rd sEdge g.2 (lb (eids g.2) x)).1, (rd sEdge g.2 (lb (eids g.2) x)).2.1, (rd sEdge g.2 (lb (eids g.2) x)).2.2.1, (rd sEdge g.2 (lb (eids g.2) x)).2.2.2.1, (rd sEdge g.2 (lb (eids g.2) x)).2.2.2.2) = some true from sameE_self (rd sEdge g.2 (lb (eids g.2) x)) ⟨u.1, u.2.2⟩]
            exact finds_f g hg x l
        | true =>
          have hl : lb (ids g.1) x < g.1.length := by simpa using lb_in hg.nup hn
          have u := nodeN_up (hg.nodes _ (rd_mem (e := sNode) hl))
          have sn : V.pleachref25_SameNode ((rd sNode g.1 (lb (ids g.1) x)).1, (rd sNode g.1 (lb (ids g.1) x)).2.1, (rd sNode g.1 (lb (ids g.1) x)).2.2) ((rd sNode g.1 (lb (ids g.1) x)).1, (rd sNode g.1 (lb (ids g.1) x)).2.1, (rd sNode g.1 (lb (ids g.1) x)).2.2) = some true := sameN_self (rd sNode g.1 (lb (ids g.1) x)) ⟨u.1, u.2.2⟩
          cases he : has (eids g.2) x with
          | false =>
            show (bif (!(true == decide ((lb (ids g.1) x : Int) ≥ 0))) then _ else V.pleachlaw26_GraphFinds.j1111101 g x l true false (lb (ids g.1) x : Int) (-1) false (rd sNode g.1 (lb (ids g.1) x)).1 (rd sNode g.1 (lb (ids g.1) x)).2.1 (rd sNode g.1 (lb (ids g.1) x)).2.2 (⟨#[]⟩ : ByteArray) (⟨#[]⟩ : ByteArray) (⟨#[]⟩ : ByteArray) [] []) = some true
            rw [decide_eq_true (by omega : (lb (ids g.1) x : Int) ≥ 0)]
            show V.pleachlaw26_GraphFinds.j1111101 _ _ _ _ _ _ _ _ _ _ _ _ _ _ _ _ = _
            refine V.pleachlaw26_GraphFinds.j1111101.of _ _ _ _ _ _ _ _ _ _ _ _ _ _ _ _ ?_
            unfold F.pleachlaw26_GraphFinds.j1111101.B
            rw [nat_cast, guard_in hl, sn, ze]
            exact finds_f g hg x l
          | true =>
            have hl2 : lb (eids g.2) x < g.2.length := by simpa using lb_in hg.eup he
            have u2 := edgeN_up (hg.edges _ (rd_mem (e := sEdge) hl2))
            show (bif (!(true == decide ((lb (ids g.1) x : Int) ≥ 0))) then _ else V.pleachlaw26_GraphFinds.j1111101 g x l true true (lb (ids g.1) x : Int) (lb (eids g.2) x : Int) (!(true == decide ((lb (eids g.2) x : Int) ≥ 0))) (rd sNode g.1 (lb (ids g.1) x)).1 (rd sNode g.1 (lb (ids g.1) x)).2.1 (rd sNode g.1 (lb (ids g.1) x)).2.2 (rd sEdge g.2 (lb (eids g.2) x)).1 (rd sEdge g.2 (lb (eids g.2) x)).2.1 (rd sEdge g.2 (lb (eids g.2) x)).2.2.1 (rd sEdge g.2 (lb (eids g.2) x)).2.2.2.1 (rd sEdge g.2 (lb (eids g.2) x)).2.2.2.2) = some true
            rw [decide_eq_true (by omega : (lb (ids g.1) x : Int) ≥ 0), decide_eq_true (by omega : (lb (eids g.2) x : Int) ≥ 0)]
            show V.pleachlaw26_GraphFinds.j1111101 _ _ _ _ _ _ _ _ _ _ _ _ _ _ _ _ = _
            refine V.pleachlaw26_GraphFinds.j1111101.of _ _ _ _ _ _ _ _ _ _ _ _ _ _ _ _ ?_
            unfold F.pleachlaw26_GraphFinds.j1111101.B
            rw [nat_cast, nat_cast, guard_in hl, guard_in hl2, sn, show V.pleachref25_SameEdge ((rd sEdge g.2 (lb (eids g.2) x)).1, (rd sEdge g.2 (lb (eids g.2) x)).2.1, (rd sEdge g.2 (lb (eids g.2) x)).2.2.1, (rd sEdge g.2 (lb (eids g.2) x)).2.2.2.1, (rd sEdge g.2 (lb (eids g.2) x)).2.2.2.2) ((rd sEdge g.2 (lb (eids g.2) x)).1, (rd sEdge g.2 (lb (eids g.2) x)).2.1, (rd sEdge g.2 (lb (eids g.2) x)).2.2.1, (rd sEdge g.2 (lb (eids g.2) x)).2.2.2.1, (rd sEdge g.2 (lb (eids g.2) x)).2.2.2.2) = some true from sameE_self (rd sEdge g.2 (lb (eids g.2) x)) ⟨u2.1, u2.2.2⟩]
            exact finds_f g hg x l
      cases decide ((x.size : Int) > 100) with
      | true => rfl
      | false =>
        rw [cond_false]
        cases decide ((l.size : Int) > 100) with
        | true => exact awake_or g x l
        | false => exact main
    · simp [Bool.cond_eq_ite, hw]

end Go.Proofs.YtdblhdpnllckhaaGreat.AE
end
section
namespace Go.Proofs.YtdblhdpnllckhaaGreat.AE
open Go Go.ChangeShapes Go.WideShapes Go.ChangeAt Go.RowKit
theorem weights_each {H : Type} {P : Program} {p : Nat → Bool} {ts : List TypeId} {ds : List (DataW H)} (h : (DataW.weightsEach P ts ds).all p = true) {j : Nat} {t : TypeId} {d : DataW H} (ht : ts[j]? = some t) (hd : ds[j]? = some d) : ∀ n ∈ d.weights P t, p n = true :=
  fun n hn => List.all_eq_true.1 h _ (DataW.weights_mem_each ht hd n hn)
theorem own : ownKnob Tryz.prog.godebug = none := by kernel_rfl
theorem laidOut : laidOutB Tryz.prog = true := by kernel_rfl
theorem mix : Tryz.prog.follows .mixedOrders = true := by kernel_rfl
theorem numGoB : (Tryz.prog.funcs.all fun fn => !(fn.name == "runtime.NumGoroutine")) = true := by kernel_rfl
theorem num (f : FuncId) (fn : Func) (h : Tryz.prog.funcs[f]? = some fn) : (fn.name == "runtime.NumGoroutine") = false := by
  have := Array.all_eq_true_iff_forall_mem.1 numGoB fn (Array.mem_of_getElem? h)
  simpa using this
theorem extok : ExtOk Tryz.prog sg := .of (show extAll Tryz.prog sgT from
  ⟨.nothing rfl rfl,
  ⟨.nothing rfl rfl,
  ⟨.nothing rfl rfl,
  ⟨.nothing rfl rfl,
  ⟨.nothing rfl rfl,
  ⟨.nothing rfl rfl,
  ⟨.nothing rfl rfl,
  ⟨.nothing rfl rfl,
  ⟨.nothing rfl rfl,
  ⟨.nothing rfl rfl,
  ⟨.nothing rfl rfl,
  ⟨.nothing rfl rfl,
  ⟨.nothing rfl rfl,
  ⟨.nothing rfl rfl,
  ⟨.nothing rfl rfl,
  ⟨.nothing rfl rfl,
  ⟨.nothing rfl rfl,
  ⟨.nothing rfl rfl,
  ⟨.nothing rfl rfl,
  ⟨.nothing rfl rfl,
  ⟨.nothing rfl rfl,
  ⟨.nothing rfl rfl,
  ⟨.nothing rfl rfl,
  ⟨.nothing rfl rfl,
  ⟨.nothing rfl rfl,
  ⟨.nothing rfl rfl,
  ⟨.nothing rfl rfl,
  ⟨.nothing rfl rfl,
  ⟨.nothing rfl rfl,
  ⟨.nothing rfl rfl,
  ⟨.nothing rfl rfl,
  ⟨.nothing rfl rfl,
  ⟨.nothing rfl rfl,
  ⟨.nothing rfl rfl,
  ⟨.nothing rfl rfl,
  ⟨.nothing rfl rfl,
  ⟨.nothing rfl rfl,
  ⟨.nothing rfl rfl,
  ⟨.nothing rfl rfl,
  ⟨.nothing rfl rfl,
  ⟨.nothing rfl rfl,
  ⟨.nothing rfl rfl,
  ⟨.nothing rfl rfl,
  ⟨.nothing rfl rfl,
  ⟨.nothing rfl rfl,
  ⟨.nothing rfl rfl,
  ⟨.nothing rfl rfl,
  ⟨.nothing rfl rfl,
  ⟨.nothing rfl rfl,
  ⟨.nothing rfl rfl,
  ⟨.nothing rfl rfl,
  ⟨.nothing rfl rfl,
  ⟨.nothing rfl rfl,
  ⟨.nothing rfl rfl,
  ⟨.nothing rfl rfl,
  ⟨.nothing rfl rfl,
  ⟨.nothing rfl rfl,
  ⟨.nothing rfl rfl,
  ⟨.nothing rfl rfl,
  ⟨.nothing rfl rfl,
  ⟨.nothing rfl rfl,
  ⟨.nothing rfl rfl,
  ⟨.nothing rfl rfl,
  ⟨.nothing rfl rfl,
  ⟨.nothing rfl rfl,
  ⟨.nothing rfl rfl,
  ⟨.nothing rfl rfl,
  ⟨.nothing rfl rfl,
  ⟨.nothing rfl rfl,
  ⟨.nothing rfl rfl,
  ⟨.nothing rfl rfl,
  ⟨.nothing rfl rfl,
  ⟨.nothing rfl rfl,
  ⟨.nothing rfl rfl,
  ⟨.nothing rfl rfl,
  ⟨.nothing rfl rfl,
  ⟨.nothing rfl rfl,
  ⟨.nothing rfl rfl,
  ⟨.nothing rfl rfl,
  ⟨.nothing rfl rfl,
  ⟨.nothing rfl rfl,
  ⟨.nothing rfl rfl,
  ⟨.nothing rfl rfl,
  ⟨.nothing rfl rfl,
  ⟨.nothing rfl rfl,
  ⟨.nothing rfl rfl,
  ⟨.nothing rfl rfl,
  ⟨.nothing rfl rfl,
  ⟨.nothing rfl rfl,
  ⟨.nothing rfl rfl,
  ⟨.nothing rfl rfl,
  ⟨.nothing rfl rfl,
  ⟨.nothing rfl rfl,
  ⟨.nothing rfl rfl,
  ⟨.nothing rfl rfl,
  ⟨.nothing rfl rfl,
  ⟨.nothing rfl rfl,
  ⟨.nothing rfl rfl,
  ⟨.nothing rfl rfl,
  ⟨.nothing rfl rfl,
  ⟨.nothing rfl rfl,
  ⟨.nothing rfl rfl,
  ⟨.nothing rfl rfl,
  ⟨.nothing rfl rfl,
  ⟨.nothing rfl rfl,
  ⟨.nothing rfl rfl,
  trivial⟩⟩⟩⟩⟩⟩⟩⟩⟩⟩⟩⟩⟩⟩⟩⟩⟩⟩⟩⟩⟩⟩⟩⟩⟩⟩⟩⟩⟩⟩⟩⟩⟩⟩⟩⟩⟩⟩⟩⟩⟩⟩⟩⟩⟩⟩⟩⟩⟩⟩⟩⟩⟩⟩⟩⟩⟩⟩⟩⟩⟩⟩⟩⟩⟩⟩⟩⟩⟩⟩⟩⟩⟩⟩⟩⟩⟩⟩⟩⟩⟩⟩⟩⟩⟩⟩⟩⟩⟩⟩⟩⟩⟩⟩⟩⟩⟩⟩⟩⟩⟩⟩⟩⟩⟩⟩)
end Go.Proofs.YtdblhdpnllckhaaGreat.AE
end
section
namespace Go.Proofs.YtdblhdpnllckhaaGreat.AE.graphFinds
open Go Go.ChangeShapes Go.WideShapes Go.ChangeAt Go.RowKit
open Go.ChangeMaps (open_string shut_string)
set_option linter.unusedVariables false
def Pure : Prop := ∀ (x0 : den ((.prod (.list (.prod .str (.prod (.list .str) (.list (.prod .str (.prod (.int .i64) (.prod (.int .i64) .str))))))) (.list (.prod .str (.prod .str (.prod .str (.prod (.list .str) (.list (.prod .str (.prod (.int .i64) (.prod (.int .i64) .str)))))))))))) (x1 : den .str) (x2 : den .str), Gd ((.prod (.list (.prod .str (.prod (.list .str) (.list (.prod .str (.prod (.int .i64) (.prod (.int .i64) .str))))))) (.list (.prod .str (.prod .str (.prod .str (.prod (.list .str) (.list (.prod .str (.prod (.int .i64) (.prod (.int .i64) .str))))))))))) x0 → Gd .str x1 → Gd .str x2 → ∃ K, F.pleachlaw26_GraphFinds K x0 x1 x2 = some true
set_option maxRecDepth 100000 in
theorem lifted (pure : Pure) (os : Os) (started : os.Started) (H : Type) (enc : TypeId × Value → H) :
    ReturnsInHanded {} Tryz.checked os 4 .any (Rows.graphFindsSpec.pre6 enc Tryz.prog Tryz.f4 Rows.graphFindsRow.domain false) (Rows.graphFindsSpec.post enc Tryz.prog Tryz.f4 false true false false) := by
  refine returnsInHanded_of_change_sized (C := Tryz.checked) own started (by kernel_rfl) Tryz.func4
    (ChangeSpec.witness6 (enc := enc) (C := Tryz.checked) false ⟨#[], #[.agg #[.slice none 0 0, .slice none 0 0], .string ByteArray.empty, .string ByteArray.empty], []⟩ 8 (by kernel_rfl) (by kernel_rfl) (by kernel_rfl) (by kernel_rfl)) ?_
  intro W base args ds gs before hval0 hW hcnd hsz0 _
  have hsz : (DataW.weightsEach Tryz.prog (Tryz.f4.params.toList ++ Rows.graphFindsSpec.plain.varTypes Tryz.prog) (ds ++ gs)).all (· ≤ reachBytes) = true := hsz0
  have hval : ∀ (j : Nat) t v, Tryz.f4.params[j]? = some t → args[j]? = some v → Value.okWide Tryz.prog W .any base t v := hval0
  have hW' := hW
  obtain ⟨p, q, hA0, hV, rfl, hfz, hnd⟩ := hW
  have hA : DataW.TrodAll enc Tryz.prog W 0 (fun _ => true) true Tryz.f4.params.toList args.toList ds p := hA0
  rw [Tryz.params4] at hA hval hsz
  obtain ⟨v0, vs0, d0, ds0, p0, q0, hargs, rfl, rfl, h0, r0⟩ := trodAll_cons hA
  obtain ⟨v1, vs1, d1, ds1, p1, q1, rfl, rfl, rfl, h1, r1⟩ := trodAll_cons r0
  obtain ⟨v2, vs2, d2, ds2, p2, q2, rfl, rfl, rfl, h2, r2⟩ := trodAll_cons r1
  obtain ⟨rfl, rfl, rfl⟩ := trodAll_nil r2
  obtain rfl : args = #[v0, v1, v2] := by cases args; simp_all
  obtain ⟨rfl, rfl⟩ := trodVars_none hV
  have k0 := h0
  have lt0 : ∀ x ∈ p0, x.block < W.heap.size := by obtain ⟨m, hm⟩ := k0; exact DataW.trod_lt m _ _ _ hm
  obtain ⟨cs0, rfl, _⟩ := okWide_struct Tryz.underlying25 (hval 0 25 v0 rfl rfl)
  obtain ⟨fuel0, hf0⟩ := h0
  obtain ⟨x0, S0, G0⟩ := fitT_ok (O := OX NoX [] []) (fun b => own_none) 20 25 ((.prod (.list (.prod .str (.prod (.list .str) (.list (.prod .str (.prod (.int .i64) (.prod (.int .i64) .str))))))) (.list (.prod .str (.prod .str (.prod .str (.prod (.list .str) (.list (.prod .str (.prod (.int .i64) (.prod (.int .i64) .str))))))))))) (by kernel_rfl) fuel0 _ _ hf0 (fun m hm => by have hq := weights_each hsz (j := 0) (t := 25) rfl rfl m hm; exact of_decide_eq_true hq)
  obtain ⟨x1, rfl, rfl, rfl, y1⟩ := open_string Tryz.underlying9 (hval 1 9 v1 rfl rfl) h1
  have G1 : Gd .str x1 := by
    have z := sized_string hsz (j := 1) (t := 9) rfl rfl
    rw [Array.length_toList] at z
    exact z
  obtain ⟨x2, rfl, rfl, rfl, y2⟩ := open_string Tryz.underlying9 (hval 2 9 v2 rfl rfl) h2
  have G2 : Gd .str x2 := by
    have z := sized_string hsz (j := 2) (t := 9) rfl rfl
    rw [Array.length_toList] at z
    exact z
  obtain ⟨K, hk⟩ := pure x0 x1 x2 G0 G1 G2
  have ha : AV1sR (OX NoX [] []) W [] [.agg (inj ((.prod (.list (.prod .str (.prod (.list .str) (.list (.prod .str (.prod (.int .i64) (.prod (.int .i64) .str))))))) (.list (.prod .str (.prod .str (.prod .str (.prod (.list .str) (.list (.prod .str (.prod (.int .i64) (.prod (.int .i64) .str))))))))))) x0), .sc (.val (.string x1)), .sc (.val (.string x2))] (#[.agg cs0, .string x1, .string x2] : Array Value).toList := .cons (arg_agg S0) (.cons (.sc (.val _)) (.cons (.sc (.val _)) ⟨rfl, by simp⟩))
  refine (law_calls (good Tryz.prog sg extok mix num K) (f := 4) (t := (true : Bool)) (b := true) hk rfl (fun O w ρ vals σ v h hv => bool_of h hv) ha).mono fun e W' ⟨he, hd⟩ => ?_
  have bel : Below W.heap.size W W' := hd
  subst he
  exact ⟨_, rfl, _, _, _, [], _, [], hW', trodAll_mk1 (shut_bool Tryz.underlying4 _), (trodAll_cons_mk (Below.trod laidOut (by kernel_rfl) (of_decide_eq_true (by kernel_rfl)) k0 bel lt0) (trodAll_cons_mk (shut_string Tryz.underlying9 y1) (trodAll_cons_mk (shut_string Tryz.underlying9 y2) trodAll_mk0))), rfl, bel.frame _, fun h => by cases h⟩
theorem over (pure : Pure) : Rows.graphFindsRow.holds Tryz.pinned (OpenSpec.ofChange Rows.graphFindsSpec) :=
  OpenClaim.holds_of_wide 4 Tryz.f4 rfl rfl rfl rfl rfl rfl rfl ⟨rfl, rfl, rfl, rfl, rfl⟩ rfl rfl rfl rfl rfl (by kernel_rfl) Tryz.func4 (by kernel_rfl)
    (of_decide_eq_true (by kernel_rfl)) (by unfold Func.isWrapper; first | (rw [if_pos (by decide +kernel)]; kernel_rfl) | (rw [if_neg (by decide +kernel)]; exact ⟨rfl, rfl⟩))
    (fun os started H enc _ => lifted pure os started H enc)
theorem proved (pure : Pure) : Rows.GraphFindsSaid := over pure
end Go.Proofs.YtdblhdpnllckhaaGreat.AE.graphFinds
end
