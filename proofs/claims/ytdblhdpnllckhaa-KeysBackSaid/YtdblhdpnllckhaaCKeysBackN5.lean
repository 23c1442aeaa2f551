/- The evaluator of the program's form, its soundness, the functions of the given program as it evaluates them, and laws on these. Conditions: as each theorem says. -/
import Derived.Test.YtdblhdpnllckhaaCKeysBackN4
import Derived.Laws.BitsLemmas
import Derived.Sort.AssemblyPlain
import Derived.Test.YtdblhdpnllckhaaRows
import Derived.Test.YtdblhdpnllckhaaCKeysBackN2
import Derived.WalkKit
import Derived.ProofKit
import Derived.OpenShut
import Derived.ShutString
import Derived.ChangeOld
import Derived.Below
import Derived.SizedLaws
section
set_option linter.unusedVariables false
set_option linter.unusedSimpArgs false
set_option maxRecDepth 20000
namespace Go.Proofs.Ytdblhdpnllckhaa.AE
open Go

/-- A graph of sizes that fit. -/
structure okGraph (g : TGraph) : Prop where
  ns : g.1.length ≤ 70368744177616
  es : g.2.length ≤ 70368744177616
  n : ∀ n ∈ g.1, okNode n
  e : ∀ x ∈ g.2, okEdge x

def nodeStep (l : List TNode) (i : Nat) : Option Int :=
  if nodeN (rd sNode l i) ≠ 0 then some (nodeN (rd sNode l i)) else if 0 < i ∧ strLt (rd sNode l (i - 1)).1 (rd sNode l i).1 = false then some 4 else none
def edgeStep (ks : List ByteArray) (l : List TEdge) (i : Nat) : Option Int :=
  if edgeN (rd sEdge l i) ≠ 0 then some (edgeN (rd sEdge l i)) else if 0 < i ∧ strLt (rd sEdge l (i - 1)).1 (rd sEdge l i).1 = false then some 4
  else if has ks (rd sEdge l i).2.1 = true ∧ has ks (rd sEdge l i).2.2.1 = true then none else some 9
def edgesN (g : TGraph) : Int := scanI (edgeStep (ids g.1) g.2) g.2.length 0
def wrongN (g : TGraph) : Int := if g.1.length > 500 then 5 else if g.2.length > 1000 then 5 else scanG (nodeStep g.1) (edgesN g) g.1.length 0

theorem up_of {ks : List ByteArray} (h : ∀ i (hi : i < ks.length), 0 < i → strLt (ks[i - 1]'(by omega)) ks[i] = true) : Up ks := by
  refine List.pairwise_iff_getElem.2 fun i j hi hj hij => ?_
  have main : ∀ d j (hj : j < ks.length), j = i + 1 + d → strLt ks[i] ks[j] = true := by
    intro d
    induction d with
    | zero =>
      intro j hj e
      have := h j hj (by omega)
      simpa [e] using this
    | succ d ih =>
      intro j hj e
      have h1 := ih (j - 1) (by omega) (by omega)
      exact lt_trans h1 (h j hj (by omega))
  exact main (j - (i + 1)) j hj (by omega)
theorem nodeStep_none {l : List TNode} {i : Nat} (h : nodeStep l i = none) : nodeN (rd sNode l i) = 0 ∧ (0 < i → strLt (rd sNode l (i - 1)).1 (rd sNode l i).1 = true) := by
  unfold nodeStep at h
  split at h
  · cases h
  · rename_i h0
    split at h
    · cases h
    · rename_i h1
      exact ⟨by simpa using h0, fun hp => by cases hl : strLt (rd sNode l (i - 1)).1 (rd sNode l i).1 with | true => rfl | false => exact absurd ⟨hp, hl⟩ h1⟩
theorem edgeStep_none {ks : List ByteArray} {l : List TEdge} {i : Nat} (h : edgeStep ks l i = none) : edgeN (rd sEdge l i) = 0 ∧ (0 < i → strLt (rd sEdge l (i - 1)).1 (rd sEdge l i).1 = true) ∧ has ks (rd sEdge l i).2.1 = true ∧ has ks (rd sEdge l i).2.2.1 = true := by
  unfold edgeStep at h
  split at h
  · cases h
  · rename_i h0
    split at h
    · cases h
    · rename_i h1
      split at h
      · rename_i h2
        exact ⟨by simpa using h0, fun hp => by cases hl : strLt (rd sEdge l (i - 1)).1 (rd sEdge l i).1 with | true => rfl | false => exact absurd ⟨hp, hl⟩ h1, h2⟩
      · cases h
theorem up_nodes {l : List TNode} (h : ∀ j, j < l.length → nodeStep l j = none) : Up (ids l) := by
  refine up_of fun i hi hp => ?_
  have hi' : i < l.length := by simpa using hi
  have := (nodeStep_none (h i hi')).2 hp
  rw [ids_get (by omega : i - 1 < l.length), ids_get hi'] at this
  exact this
theorem up_edges {ks : List ByteArray} {l : List TEdge} (h : ∀ j, j < l.length → edgeStep ks l j = none) : Up (eids l) := by
  refine up_of fun i hi hp => ?_
  have hi' : i < l.length := by simpa using hi
  have := (edgeStep_none (h i hi')).2.1 hp
  rw [eids_get (by omega : i - 1 < l.length), eids_get hi'] at this
  exact this

theorem Wrong_l1 (g : TGraph) (hok : okGraph g) : ∀ d i : Nat, i + d = g.2.length → V.pleachref26_Wrong.l111010 g (i : Int) = some (scanI (edgeStep (ids g.1) g.2) d i)
  | 0, i, h => by
    refine V.pleachref26_Wrong.l111010.of _ _ ?_
    unfold F.pleachref26_Wrong.l111010.B
    rw [if_out (by omega)]
    rfl
  | d + 1, i, h => by
    have hi : i < g.2.length := by omega
    have hs : g.2.length ≤ 140737488351232 := by have := hok.es; omega
    have ih := Wrong_l1 g hok d (i + 1) (by omega)
    have e := refEdge_ok _ (hok.e _ (rd_mem (e := sEdge) hi))
    have nd : ∀ x, V.pleachref26_NodeAt (g.1, g.2) x = some (atI (ids g.1) x) := fun x => NodeAt_ok g x (by have := hok.ns; omega)
    refine V.pleachref26_Wrong.l111010.of _ _ ?_
    unfold F.pleachref26_Wrong.l111010.B
    rw [if_in hi, guard_in hi, nat_cast, e, Option.bind_some, scanI_succ]
    simp only [nd, Option.bind_some, w64_up hi hs, ih, atI_neg, lt_or]
    unfold edgeStep
    generalize scanI _ d (i + 1) = q
    by_cases hp : 0 < i
    · rw [if_yes (by omega : (i : Int) > 0), w64_dn hi hs hp, guard_in (by omega : i - 1 < g.2.length), nat_cast]
      generalize rd sEdge g.2 i = x
      generalize rd sEdge g.2 (i - 1) = y
      by_cases h0 : edgeN x = 0
      · cases hl : strLt y.1 x.1 <;> cases m1 : has (ids g.1) x.2.1 <;> cases m2 : has (ids g.1) x.2.2.1 <;> simp [h0, hp, hl, m1, m2]
      · simp [h0, Bool.cond_eq_ite]
    · rw [if_no (by omega : ¬ (i : Int) > 0)]
      generalize rd sEdge g.2 i = x
      by_cases h0 : edgeN x = 0
      · cases m1 : has (ids g.1) x.2.1 <;> cases m2 : has (ids g.1) x.2.2.1 <;> simp [h0, hp, m1, m2]
      · simp [h0, Bool.cond_eq_ite]
theorem Wrong_l0 (g : TGraph) (hok : okGraph g) : ∀ d i : Nat, i + d = g.1.length → V.pleachref26_Wrong.l11010 g (i : Int) = some (scanG (nodeStep g.1) (edgesN g) d i)
  | 0, i, h => by
    refine V.pleachref26_Wrong.l11010.of _ _ ?_
    unfold F.pleachref26_Wrong.l11010.B
    rw [if_out (by omega)]
    exact Wrong_l1 g hok g.2.length 0 (by omega)
  | d + 1, i, h => by
    have hi : i < g.1.length := by omega
    have hs : g.1.length ≤ 140737488351232 := by have := hok.ns; omega
    have e := refNode_ok _ (hok.n _ (rd_mem (e := sNode) hi))
    have ih := Wrong_l0 g hok d (i + 1) (by omega)
    refine V.pleachref26_Wrong.l11010.of _ _ ?_
    unfold F.pleachref26_Wrong.l11010.B
    rw [if_in hi, guard_in hi, nat_cast, e, Option.bind_some, scanG_succ, w64_up hi hs, ih]
    simp only [lt_or]
    unfold nodeStep
    generalize scanG _ _ d (i + 1) = q
    by_cases hp : 0 < i
    · rw [if_yes (by omega : (i : Int) > 0), guard_in hi, w64_dn hi hs hp, guard_in (by omega : i - 1 < g.1.length), nat_cast]
      generalize rd sNode g.1 i = x
      generalize rd sNode g.1 (i - 1) = y
      by_cases h0 : nodeN x = 0
      · cases hl : strLt y.1 x.1 <;> simp [h0, hp, hl]
      · simp [h0, Bool.cond_eq_ite]
    · rw [if_no (by omega : ¬ (i : Int) > 0)]
      generalize rd sNode g.1 i = x
      by_cases h0 : nodeN x = 0 <;> simp [h0, hp, Bool.cond_eq_ite]
theorem Wrong_ok (g : TGraph) (hok : okGraph g) : V.pleachref26_Wrong g = some (wrongN g) := by
  refine V.pleachref26_Wrong.of _ ?_
  unfold F.pleachref26_Wrong.B wrongN
  by_cases h1 : g.1.length > 500
  · rw [if_yes (by omega), if_pos h1]
  · rw [if_no (by omega), if_neg h1]
    by_cases h2 : g.2.length > 1000
    · rw [if_yes (by omega), if_pos h2]
    · rw [if_no (by omega), if_neg h2]
      exact Wrong_l0 g hok g.1.length 0 (by omega)

/-- What is told of a graph that may be. -/
structure Good26 (g : TGraph) : Prop where
  ns : g.1.length ≤ 500
  es : g.2.length ≤ 1000
  nodes : ∀ n ∈ g.1, nodeN n = 0
  edges : ∀ x ∈ g.2, edgeN x = 0
  nup : Up (ids g.1)
  eup : Up (eids g.2)
  fr : ∀ x ∈ g.2, x.2.1 ∈ ids g.1
  to : ∀ x ∈ g.2, x.2.2.1 ∈ ids g.1

end Go.Proofs.Ytdblhdpnllckhaa.AE
end
section
set_option linter.unusedVariables false
set_option linter.unusedSimpArgs false
set_option maxRecDepth 20000
namespace Go.Proofs.Ytdblhdpnllckhaa.AE
open Go

def cut5 (s : ByteArray) : Int := if 5000 < (s.size : Int) then 5000 else (s.size : Int)
theorem cut5_in (s : ByteArray) : 0 ≤ cut5 s ∧ cut5 s ≤ 5000 := by unfold cut5; split <;> omega

theorem weight_l1 (a : List ByteArray) (b : List TProp) (hb : b.length ≤ 20) : ∀ (d i : Nat) (x : Int), i + d = b.length → 0 ≤ x → x ≤ 100000 + 10000 * i → ∃ r, V.pleachref26_weight.l1111010 a b x (i : Int) = some r ∧ 0 ≤ r ∧ r ≤ 300000
  | 0, i, x, h, h0, h1 => by
    refine ⟨x, ?_, h0, by omega⟩
    refine V.pleachref26_weight.l1111010.of _ _ _ _ ?_
    unfold F.pleachref26_weight.l1111010.B
    rw [if_out (by omega)]
  | d + 1, i, x, h, h0, h1 => by
    have hi : i < b.length := by omega
    have c1 := cut5_in (rd sProp b i).1
    have c2 := cut5_in (rd sProp b i).2.2.2
    obtain ⟨r, hr, g⟩ := weight_l1 a b hb d (i + 1) (x + cut5 (rd sProp b i).1 + cut5 (rd sProp b i).2.2.2) (by omega) (by omega) (by omega)
    refine ⟨r, ?_, g⟩
    refine V.pleachref26_weight.l1111010.of _ _ _ _ ?_
    unfold F.pleachref26_weight.l1111010.B
    rw [if_in hi, guard_in hi, guard_in hi, nat_cast, w64_up (n := b.length) hi (by omega)]
    show V.pleachref26_weight.l1111010 a b (w64 (w64 (x + cut5 (rd sProp b i).1) + cut5 (rd sProp b i).2.2.2)) _ = _
    rw [w64_id (x := x + cut5 (rd sProp b i).1) (by omega) (by omega), w64_id (by omega) (by omega)]
    exact hr
theorem weight_l0 (a : List ByteArray) (b : List TProp) (ha : a.length ≤ 20) (hb : b.length ≤ 20) : ∀ (d i : Nat) (x : Int), i + d = a.length → 0 ≤ x → x ≤ 5000 * i → ∃ r, V.pleachref26_weight.l111010 a b x (i : Int) = some r ∧ 0 ≤ r ∧ r ≤ 300000
  | 0, i, x, h, h0, h1 => by
    obtain ⟨r, hr, g⟩ := weight_l1 a b hb b.length 0 x (by omega) h0 (by omega)
    refine ⟨r, ?_, g⟩
    refine V.pleachref26_weight.l111010.of _ _ _ _ ?_
    unfold F.pleachref26_weight.l111010.B
    rw [if_out (by omega)]
    exact hr
  | d + 1, i, x, h, h0, h1 => by
    have hi : i < a.length := by omega
    have c1 := cut5_in (rd .str a i)
    obtain ⟨r, hr, g⟩ := weight_l0 a b ha hb d (i + 1) (x + cut5 (rd .str a i)) (by omega) (by omega) (by omega)
    refine ⟨r, ?_, g⟩
    refine V.pleachref26_weight.l111010.of _ _ _ _ ?_
    unfold F.pleachref26_weight.l111010.B
    rw [if_in hi, guard_in hi, nat_cast, w64_up (n := a.length) hi (by omega)]
    show V.pleachref26_weight.l111010 a b (w64 (x + cut5 (rd .str a i))) _ = _
    rw [w64_id (by omega) (by omega)]
    exact hr
theorem weight_ok (a : List ByteArray) (b : List TProp) : ∃ r, V.pleachref26_weight a b = some r ∧ 0 ≤ r ∧ r ≤ 300000 ∧ (r ≤ 5000 → a.length ≤ 20 ∧ b.length ≤ 20) := by
  by_cases ha : a.length > 20
  · refine ⟨100000, V.pleachref26_weight.of _ _ ?_, by omega, by omega, by omega⟩
    unfold F.pleachref26_weight.B
    rw [if_yes (by omega)]
  · by_cases hb : b.length > 20
    · refine ⟨100000, V.pleachref26_weight.of _ _ ?_, by omega, by omega, by omega⟩
      unfold F.pleachref26_weight.B
      rw [if_no (by omega), if_yes (by omega)]
    · obtain ⟨r, hr, h0, h1⟩ := weight_l0 a b (by omega) (by omega) a.length 0 0 (by omega) (by omega) (by omega)
      refine ⟨r, V.pleachref26_weight.of _ _ ?_, h0, h1, fun _ => ⟨by omega, by omega⟩⟩
      unfold F.pleachref26_weight.B
      rw [if_no (by omega), if_no (by omega)]
      exact hr

structure Slim (g : TGraph) : Prop where
  ns : g.1.length ≤ 40
  es : g.2.length ≤ 60
  n : ∀ n ∈ g.1, n.2.1.length ≤ 20 ∧ n.2.2.length ≤ 20
  e : ∀ x ∈ g.2, x.2.2.2.1.length ≤ 20 ∧ x.2.2.2.2.length ≤ 20

theorem Few_l1 (g : TGraph) (hs : g.2.length ≤ 60) : ∀ (d i : Nat) (x : Int), i + d = g.2.length → 0 ≤ x → x ≤ 40000000 + 400000 * i → ∃ b, V.pleachref26_Few.l1111010 g x (i : Int) = some b ∧ (b = true → x ≤ 5000 ∧ ∀ j, i ≤ j → j < g.2.length → (rd sEdge g.2 j).2.2.2.1.length ≤ 20 ∧ (rd sEdge g.2 j).2.2.2.2.length ≤ 20)
  | 0, i, x, h, h0, h1 => by
    refine ⟨decide (x ≤ 5000), ?_, fun hb => ⟨by simpa using hb, fun j g1 g2 => by omega⟩⟩
    refine V.pleachref26_Few.l1111010.of _ _ _ ?_
    unfold F.pleachref26_Few.l1111010.B
    rw [if_out (by omega)]
  | d + 1, i, x, h, h0, h1 => by
    have hi : i < g.2.length := by omega
    obtain ⟨w, hw, w0, w1, w2⟩ := weight_ok (rd sEdge g.2 i).2.2.2.1 (rd sEdge g.2 i).2.2.2.2
    have c1 := cut5_in (rd sEdge g.2 i).1
    have c2 := cut5_in (rd sEdge g.2 i).2.1
    have c3 := cut5_in (rd sEdge g.2 i).2.2.1
    obtain ⟨b, hb, g⟩ := Few_l1 g hs d (i + 1) (x + cut5 (rd sEdge g.2 i).1 + cut5 (rd sEdge g.2 i).2.1 + cut5 (rd sEdge g.2 i).2.2.1 + w) (by omega) (by omega) (by omega)
    refine ⟨b, ?_, fun ht => ⟨by have := (g ht).1; omega, fun j g1 g2 => ?_⟩⟩
    · refine V.pleachref26_Few.l1111010.of _ _ _ ?_
      unfold F.pleachref26_Few.l1111010.B
      rw [if_in hi, guard_in hi, nat_cast, w64_up (n := 60) (by omega) (by omega), hw, Option.bind_some]
      show V.pleachref26_Few.l1111010 _ (w64 (w64 (w64 (w64 (x + cut5 (rd sEdge _ i).1) + cut5 (rd sEdge _ i).2.1) + cut5 (rd sEdge _ i).2.2.1) + w)) _ = _
      rw [w64_id (x := x + cut5 (rd sEdge _ i).1) (by omega) (by omega), w64_id (x := x + cut5 (rd sEdge _ i).1 + cut5 (rd sEdge _ i).2.1) (by omega) (by omega), w64_id (x := x + cut5 (rd sEdge _ i).1 + cut5 (rd sEdge _ i).2.1 + cut5 (rd sEdge _ i).2.2.1) (by omega) (by omega), w64_id (by omega) (by omega)]
      exact hb
    · rcases Nat.eq_or_lt_of_le g1 with e | e
      · subst e; exact w2 (by have := (g ht).1; omega)
      · exact (g ht).2 j e g2
theorem Few_l0 (g : TGraph) (hn : g.1.length ≤ 40) (hs : g.2.length ≤ 60) : ∀ (d i : Nat) (x : Int), i + d = g.1.length → 0 ≤ x → x ≤ 400000 * i → ∃ b, V.pleachref26_Few.l111010 g x (i : Int) = some b ∧ (b = true → x ≤ 5000 ∧ (∀ j, i ≤ j → j < g.1.length → (rd sNode g.1 j).2.1.length ≤ 20 ∧ (rd sNode g.1 j).2.2.length ≤ 20) ∧ ∀ j, j < g.2.length → (rd sEdge g.2 j).2.2.2.1.length ≤ 20 ∧ (rd sEdge g.2 j).2.2.2.2.length ≤ 20)
  | 0, i, x, h, h0, h1 => by
    obtain ⟨b, hb, q⟩ := Few_l1 g hs g.2.length 0 x (by omega) h0 (by omega)
    refine ⟨b, ?_, fun ht => ⟨(q ht).1, fun j g1 g2 => by omega, fun j g2 => (q ht).2 j (by omega) g2⟩⟩
    refine V.pleachref26_Few.l111010.of _ _ _ ?_
    unfold F.pleachref26_Few.l111010.B
    rw [if_out (by omega)]
    exact hb
  | d + 1, i, x, h, h0, h1 => by
    have hi : i < g.1.length := by omega
    obtain ⟨w, hw, w0, w1, w2⟩ := weight_ok (rd sNode g.1 i).2.1 (rd sNode g.1 i).2.2
    have c1 := cut5_in (rd sNode g.1 i).1
    obtain ⟨b, hb, q⟩ := Few_l0 g hn hs d (i + 1) (x + cut5 (rd sNode g.1 i).1 + w) (by omega) (by omega) (by omega)
    refine ⟨b, ?_, fun ht => ⟨by have := (q ht).1; omega, fun j g1 g2 => ?_, (q ht).2.2⟩⟩
    · refine V.pleachref26_Few.l111010.of _ _ _ ?_
      unfold F.pleachref26_Few.l111010.B
      rw [if_in hi, guard_in hi, guard_in hi, guard_in hi, nat_cast, w64_up (n := 60) (by omega) (by omega), hw, Option.bind_some]
      show V.pleachref26_Few.l111010 _ (w64 (w64 (x + cut5 (rd sNode _ i).1) + w)) _ = _
      rw [w64_id (x := x + cut5 (rd sNode _ i).1) (by omega) (by omega), w64_id (by omega) (by omega)]
      exact hb
    · rcases Nat.eq_or_lt_of_le g1 with e | e
      · subst e; exact w2 (by have := (q ht).1; omega)
      · exact (q ht).2.1 j e g2
theorem Few_ok (g : TGraph) : ∃ b, V.pleachref26_Few g = some b ∧ (b = true → Slim g) := by
  by_cases h1 : g.1.length > 40
  · refine ⟨false, V.pleachref26_Few.of _ ?_, by simp⟩
    unfold F.pleachref26_Few.B
    rw [if_yes (by omega)]
  · by_cases h2 : g.2.length > 60
    · refine ⟨false, V.pleachref26_Few.of _ ?_, by simp⟩
      unfold F.pleachref26_Few.B
      rw [if_no (by omega), if_yes (by omega)]
    · obtain ⟨b, hb, q⟩ := Few_l0 g (by omega) (by omega) g.1.length 0 0 (by omega) (by omega) (by omega)
      refine ⟨b, V.pleachref26_Few.of _ ?_, fun ht => ⟨by omega, by omega, fun n hn => ?_, fun x hx => ?_⟩⟩
      · unfold F.pleachref26_Few.B
        rw [if_no (by omega), if_no (by omega)]
        exact hb
      · obtain ⟨i, hi, e⟩ := List.getElem_of_mem hn
        have := (q ht).2.1 i (by omega) hi
        rw [rd_get (e := sNode) hi, e] at this
        exact this
      · obtain ⟨i, hi, e⟩ := List.getElem_of_mem hx
        have := (q ht).2.2 i hi
        rw [rd_get (e := sEdge) hi, e] at this
        exact this

end Go.Proofs.Ytdblhdpnllckhaa.AE
end
section
set_option linter.unusedVariables false
set_option linter.unusedSimpArgs false
set_option maxRecDepth 20000
namespace Go.Proofs.Ytdblhdpnllckhaa.AE
open Go

/-! ### Copies -/

end Go.Proofs.Ytdblhdpnllckhaa.AE
end
section
set_option linter.unusedVariables false
set_option linter.unusedSimpArgs false
namespace Go.Proofs.Ytdblhdpnllckhaa.AE
open Go

theorem gd_len {e : Sh} {l : List (den e)} (h : Gd (.list e) l) (hb : 2 ≤ e.bytes) : l.length ≤ 70368744177616 := by
  have h1 := h.1
  have : l.length * 2 ≤ l.length * e.bytes := Nat.mul_le_mul_left _ hb
  omega
theorem gd_i64 {n : Int} (h : Gd (.int .i64) n) : -9223372036854775808 ≤ n ∧ n ≤ 9223372036854775807 := by
  have h6 : (decide (IntKind.min .i64 ≤ n) && decide (n ≤ IntKind.max .i64)) = true := h
  rw [Bool.and_eq_true, decide_eq_true_eq, decide_eq_true_eq, show IntKind.min .i64 = -9223372036854775808 by decide, show IntKind.max .i64 = 9223372036854775807 by decide] at h6
  exact h6
theorem gd_texts {l : List ByteArray} (h : Gd (.list .str) l) : okTexts l := ⟨by have := gd_len h (by decide); omega, fun s hs => h.2 s hs⟩
theorem gd_props {l : List TProp} (h : Gd (.list sProp) l) : okProps l := ⟨by have := gd_len h (by decide); omega, fun p hp => by
  obtain ⟨h1, h2, h3, h4⟩ := h.2 p hp
  have h5 := gd_i64 h3
  exact ⟨h1, h4, h5⟩⟩
theorem gd_node {n : TNode} (h : Gd sNode n) : okNode n := ⟨h.1, gd_texts h.2.1, gd_props h.2.2⟩
theorem gd_edge {x : TEdge} (h : Gd sEdge x) : okEdge x := ⟨h.1, h.2.1, h.2.2.1, gd_texts h.2.2.2.1, gd_props h.2.2.2.2⟩
theorem gd_graph {g : TGraph} (h : Gd sGraph g) : okGraph g := ⟨gd_len h.1 (by decide), gd_len h.2 (by decide), fun n hn => gd_node (h.1.2 n hn), fun x hx => gd_edge (h.2.2 x hx)⟩

end Go.Proofs.Ytdblhdpnllckhaa.AE
end
section
set_option linter.unusedVariables false
set_option linter.unusedSimpArgs false
set_option maxRecDepth 20000
namespace Go.Proofs.Ytdblhdpnllckhaa.AE
open Go

theorem scanG_zero {step : Nat → Option Int} {fin : Int} (hs : ∀ i r, step i = some r → r ≠ 0) : ∀ d i, scanG step fin d i = 0 → fin = 0 ∧ ∀ j, i ≤ j → j < i + d → step j = none
  | 0, i, h => ⟨h, fun j h1 h2 => by omega⟩
  | d + 1, i, h => by
    rw [scanG_succ] at h
    cases he : step i with
    | some r => rw [he] at h; exact absurd h (hs i r he)
    | none =>
      rw [he] at h
      obtain ⟨g1, g2⟩ := scanG_zero hs d (i + 1) h
      refine ⟨g1, fun j h1 h2 => ?_⟩
      rcases Nat.eq_or_lt_of_le h1 with e | e
      · exact e ▸ he
      · exact g2 j e (by omega)
theorem scanG_none {α : Type} {step : Nat → Option α} {fin : α} : ∀ d i, (∀ j, i ≤ j → j < i + d → step j = none) → scanG step fin d i = fin
  | 0, i, h => rfl
  | d + 1, i, h => by
    rw [scanG_succ, h i (Nat.le_refl _) (by omega)]
    exact scanG_none d (i + 1) fun j h1 h2 => h j (by omega) (by omega)
theorem nodeStep_ne {l : List TNode} (i : Nat) (r : Int) (h : nodeStep l i = some r) : r ≠ 0 := by
  unfold nodeStep at h
  split at h
  · rename_i h0; cases h; exact h0
  · split at h <;> cases h; decide
theorem edgeStep_ne {ks : List ByteArray} {l : List TEdge} (i : Nat) (r : Int) (h : edgeStep ks l i = some r) : r ≠ 0 := by
  unfold edgeStep at h
  split at h
  · rename_i h0; cases h; exact h0
  · split at h
    · cases h; decide
    · split at h <;> cases h; decide

theorem good_iff (g : TGraph) : wrongN g = 0 ↔ Good26 g := by
  constructor
  · intro h
    unfold wrongN at h
    split at h
    · cases h
    · split at h
      · cases h
      · rename_i h1 h2
        obtain ⟨g1, g2⟩ := scanG_zero nodeStep_ne _ _ h
        obtain ⟨_, g3⟩ := scanG_zero edgeStep_ne _ _ g1
        have n := fun j (hj : j < g.1.length) => g2 j (by omega) (by omega)
        have e := fun j (hj : j < g.2.length) => g3 j (by omega) (by omega)
        refine ⟨by omega, by omega, fun x hx => ?_, fun x hx => ?_, up_nodes n, up_edges e, fun x hx => ?_, fun x hx => ?_⟩
        · obtain ⟨i, hi, rfl⟩ := List.getElem_of_mem hx
          have := (nodeStep_none (n i hi)).1
          rwa [rd_get (e := sNode) hi] at this
        all_goals
          obtain ⟨i, hi, rfl⟩ := List.getElem_of_mem hx
          have := edgeStep_none (e i hi)
          rw [rd_get (e := sEdge) hi] at this
        · exact this.1
        · exact has_iff.1 this.2.2.1
        · exact has_iff.1 this.2.2.2
  · intro h
    unfold wrongN
    rw [if_neg (by have := h.ns; omega), if_neg (by have := h.es; omega), scanG_none _ _ fun j _ hj => ?_]
    · refine scanG_none _ _ fun j _ hj => ?_
      have hj' : j < g.2.length := by omega
      have m : rd sEdge g.2 j ∈ g.2 := rd_mem hj'
      unfold edgeStep
      rw [if_neg (by rw [h.edges _ m]; simp), if_neg, if_pos ⟨has_iff.2 (h.fr _ m), has_iff.2 (h.to _ m)⟩]
      rintro ⟨h0, h1⟩
      have := h.eup.lt (i := j - 1) (j := j) (by omega) (by simpa using hj')
      rw [← eids_get hj', ← eids_get (by omega : j - 1 < g.2.length), h1] at this
      cases this
    · have hj' : j < g.1.length := by omega
      have m : rd sNode g.1 j ∈ g.1 := rd_mem hj'
      unfold nodeStep
      rw [if_neg (by rw [h.nodes _ m]; simp), if_neg]
      rintro ⟨h0, h1⟩
      have := h.nup.lt (i := j - 1) (j := j) (by omega) (by simpa using hj')
      rw [← ids_get hj', ← ids_get (by omega : j - 1 < g.1.length), h1] at this
      cases this

end Go.Proofs.Ytdblhdpnllckhaa.AE
end
section
set_option linter.unusedVariables false
set_option linter.unusedSimpArgs false
set_option maxRecDepth 4000
namespace Go.Proofs.Ytdblhdpnllckhaa.AE
open Go

theorem bt_range (s : ByteArray) (i : Int) : 0 ≤ byteAt s i ∧ byteAt s i < 256 := by
  unfold byteAt
  have := UInt8.toNat_lt (s.data.toList.getD i.toNat 0)
  omega
/-! lists of bytes that are one number's -/
def dg : List Int → Nat
  | [] => 0
  | c :: r => (c % 128).toNat + 128 * dg r
/-- All but the last bear a mark. -/
def contB : List Int → Bool
  | [] => false
  | [c] => decide (c < 128)
  | c :: d :: r => decide (128 ≤ c) && contB (d :: r)
def lastOk : List Int → Bool
  | [] => false
  | [_] => true
  | _ :: d :: r => decide (0 < r.getLastD d)
def isBytes (l : List Int) : Prop := ∀ x ∈ l, 0 ≤ x ∧ x < 256
theorem vput_bytes : ∀ f n, isBytes (vput f n)
  | 0, n => by intro x hx; simp [vput] at hx
  | f + 1, n => by
    unfold vput
    split
    · intro x hx; simp at hx; omega
    · intro x hx
      simp at hx
      rcases hx with rfl | hx
      · omega
      · exact vput_bytes f (n / 128) x hx
theorem contB_vput : ∀ f n, n < 128 ^ (f + 1) → contB (vput (f + 1) n) = true
  | 0, n, h => by
    have : n < 128 := by simpa using h
    simp [vput, this, contB]
    omega
  | f + 1, n, h => by
    unfold vput
    split
    · simp [contB]; omega
    · have ih := contB_vput f (n / 128) (by rw [Nat.pow_succ] at h; exact Nat.div_lt_of_lt_mul (by omega))
      have hp := vput_pos f (n / 128)
      cases hv : vput (f + 1) (n / 128) with
      | nil => rw [hv] at hp; simp at hp
      | cons d r =>
        rw [hv] at ih
        simp [contB, ih]
        omega
theorem dg_vput : ∀ f n, n < 128 ^ f → dg (vput f n) = n
  | 0, n, h => by simp at h; simp [vput, dg, h]
  | f + 1, n, h => by
    unfold vput
    split
    · simp [dg]; omega
    · have ih := dg_vput f (n / 128) (by rw [Nat.pow_succ] at h; exact Nat.div_lt_of_lt_mul (by omega))
      simp only [dg, ih]
      omega
theorem vput_last : ∀ f n, n < 128 ^ (f + 1) → lastOk (vput (f + 1) n) = true
  | 0, n, h => by
    have : n < 128 := by simpa using h
    simp [vput, this, lastOk]
  | f + 1, n, h => by
    unfold vput
    split
    · simp [lastOk]
    · have hn : n / 128 < 128 ^ (f + 1) := by rw [Nat.pow_succ] at h; exact Nat.div_lt_of_lt_mul (by omega)
      have ih := vput_last f (n / 128) hn
      have hp := vput_pos f (n / 128)
      have hd := dg_vput (f + 1) (n / 128) hn
      have hc := contB_vput f (n / 128) hn
      cases hv : vput (f + 1) (n / 128) with
      | nil => rw [hv] at hp; simp at hp
      | cons d r =>
        rw [hv] at ih hd hc
        cases r with
        | nil =>
          have hb := vput_bytes (f + 1) (n / 128) d (by rw [hv]; simp)
          simp [lastOk]
          simp [dg] at hd
          simp [contB] at hc
          omega
        | cons e r =>
          simp only [lastOk, List.getLastD_cons] at ih ⊢
          exact ih
theorem vput_dg : ∀ (l : List Int) (f : Nat), l.length ≤ f → isBytes l → contB l = true → lastOk l = true → vput f (dg l) = l
  | [], f, _, _, h, _ => by simp [contB] at h
  | [c], f, hf, hb, hc, _ => by
    obtain ⟨f, rfl⟩ : ∃ m, f = m + 1 := ⟨f - 1, by simp at hf; omega⟩
    have := hb c (by simp)
    simp [contB] at hc
    have h1 : (c % 128).toNat = c.toNat := by omega
    have h2 : c.toNat < 128 := by omega
    simp [dg, vput, h1, h2]
    omega
  | c :: d :: r, f, hf, hb, hc, hl => by
    obtain ⟨f, rfl⟩ : ∃ m, f = m + 1 := ⟨f - 1, by simp at hf; omega⟩
    have hbc := hb c (by simp)
    simp [contB] at hc
    have hpos : 0 < dg (d :: r) ∧ lastOk (d :: r) = true := by
      simp only [lastOk, decide_eq_true_eq] at hl
      constructor
      · have : ∀ (q : List Int) (x : Int), isBytes (x :: q) → contB (x :: q) = true → 0 < q.getLastD x → 0 < dg (x :: q) := by
          intro q
          induction q with
          | nil =>
            intro x hb hc hp
            simp [contB] at hc
            simp at hp
            simp [dg]
            omega
          | cons y q ih =>
            intro x hb hc hp
            simp [contB] at hc
            rw [List.getLastD_cons] at hp
            have := ih y (fun z hz => hb z (by simp at hz ⊢; right; exact hz)) hc.2 hp
            have hdg : dg (x :: y :: q) = (x % 128).toNat + 128 * dg (y :: q) := rfl
            omega
        exact this r d (fun z hz => hb z (by simp at hz ⊢; right; exact hz)) hc.2 hl
      · cases r with
        | nil => rfl
        | cons e r =>
          rw [List.getLastD_cons] at hl
          simp only [lastOk, decide_eq_true_eq]
          exact hl
    have ih := vput_dg (d :: r) f (by simp at hf ⊢; omega) (fun z hz => hb z (by simp at hz ⊢; right; exact hz)) hc.2 hpos.2
    have hdg : dg (c :: d :: r) = (c % 128).toNat + 128 * dg (d :: r) := rfl
    have hge : ¬ dg (c :: d :: r) < 128 := by omega
    rw [vput, if_neg hge]
    have h3 : dg (c :: d :: r) / 128 = dg (d :: r) := by omega
    rw [h3, ih]
    congr 1
    omega
theorem dg_bound : ∀ (l : List Int), isBytes l → dg l < 128 ^ l.length
  | [], _ => by simp [dg]
  | c :: r, hb => by
    have ih := dg_bound r (fun z hz => hb z (by simp [hz]))
    have := hb c (by simp)
    simp only [dg, List.length_cons, Nat.pow_succ]
    omega
theorem bytesOf_inj : ∀ (a b : List Int), isBytes a → isBytes b → bytesOf a = bytesOf b → a = b := by
  intro a b ha hb h
  have h1 : (a.map fun n => UInt8.ofNat n.toNat) = (b.map fun n => UInt8.ofNat n.toNat) := by
    have : (bytesOf a).data.toList = (bytesOf b).data.toList := by rw [h]
    simpa [bytesOf] using this
  have h2 : ∀ (a b : List Int), isBytes a → isBytes b → (a.map fun n => UInt8.ofNat n.toNat) = (b.map fun n => UInt8.ofNat n.toNat) → a = b := by
    intro a
    induction a with
    | nil => intro b _ _ h; cases b with | nil => rfl | cons y b => simp at h
    | cons x a ih =>
      intro b ha hb h
      cases b with
      | nil => simp at h
      | cons y b =>
        simp only [List.map_cons, List.cons.injEq] at h
        have hx := ha x (by simp)
        have hy := hb y (by simp)
        have e := congrArg UInt8.toNat h.1
        simp [UInt8.toNat_ofNat'] at e
        rw [ih b (fun z hz => ha z (by simp [hz])) (fun z hz => hb z (by simp [hz])) h.2]
        congr 1
        omega
  exact h2 a b ha hb h1
/-- d bytes from place i on. -/
def bl (s : ByteArray) : Nat → Nat → List Int
  | 0, _ => []
  | d + 1, i => byteAt s (i : Int) :: bl s d (i + 1)
theorem bl_len (s : ByteArray) : ∀ d i, (bl s d i).length = d
  | 0, _ => rfl
  | d + 1, i => by simp [bl, bl_len s d (i + 1)]
theorem bl_bytes (s : ByteArray) : ∀ d i, isBytes (bl s d i)
  | 0, _ => by intro x hx; simp [bl] at hx
  | d + 1, i => by
    intro x hx
    simp [bl] at hx
    rcases hx with rfl | hx
    · have := bt_range s (i : Int); omega
    · exact bl_bytes s d (i + 1) x hx
theorem bl_snoc (s : ByteArray) : ∀ d i, bl s (d + 1) i = bl s d i ++ [byteAt s ((i + d : Nat) : Int)]
  | 0, i => by simp [bl]
  | d + 1, i => by
    have := bl_snoc s d (i + 1)
    rw [bl, this, bl]
    simp
    congr 1
    omega
theorem bt_of (s : ByteArray) (i : Nat) (h : i < s.size) : UInt8.ofNat (byteAt s (i : Int)).toNat = s.data.toList[i]'(by rw [Array.length_toList]; exact h) := by
  rw [bt_data s i h, Int.toNat_natCast, UInt8.ofNat_toNat]
theorem bytesOf_bl (s : ByteArray) : ∀ d, d ≤ s.size → bytesOf (bl s d 0) = s.extract 0 d
  | 0, _ => by
    apply ByteArray.ext
    simp [bl, bytesOf]
  | d + 1, h => by
    have ih := bytesOf_bl s d (by omega)
    rw [bl_snoc, strOfNums_append, ih, Nat.zero_add]
    apply ByteArray.ext
    apply Array.ext'
    have hl : s.data.toList.length = s.size := by rw [Array.length_toList]; rfl
    simp only [bytesOf, ByteArray.data_append, ByteArray.data_extract, Array.toList_append, Array.toList_extract, List.map_cons, List.map_nil, List.extract_eq_take_drop, List.drop_zero, Nat.sub_zero]
    rw [List.take_succ_eq_append_getElem (by omega), bt_of s d (by omega)]
theorem dg_snoc : ∀ (l : List Int) (c : Int), dg (l ++ [c]) = dg l + 128 ^ l.length * (c % 128).toNat
  | [], c => by simp [dg]
  | d :: l, c => by
    simp only [List.cons_append, dg, dg_snoc l c, List.length_cons, Nat.pow_succ, Nat.mul_add]
    have : 128 * (128 ^ l.length * (c % 128).toNat) = 128 ^ l.length * 128 * (c % 128).toNat := by
      rw [← Nat.mul_assoc, Nat.mul_comm 128]
    omega
theorem contB_bl (s : ByteArray) (e : Nat) (h1 : ∀ j, j < e → 128 ≤ byteAt s (j : Int)) (h2 : byteAt s (e : Int) < 128) : ∀ d i, i + d = e → contB (bl s (d + 1) i) = true
  | 0, i, h => by
    obtain rfl : i = e := by omega
    simp [bl, contB, h2]
  | d + 1, i, h => by
    have ih := contB_bl s e h1 h2 d (i + 1) (by omega)
    have e1 : bl s (d + 1 + 1) i = byteAt s (i : Int) :: byteAt s ((i + 1 : Nat) : Int) :: bl s d (i + 1 + 1) := rfl
    have e2 : bl s (d + 1) (i + 1) = byteAt s ((i + 1 : Nat) : Int) :: bl s d (i + 1 + 1) := rfl
    rw [e2] at ih
    rw [e1]
    simp [contB, h1 i (by omega)]
    simpa using ih
theorem getLastD_bl (s : ByteArray) : ∀ d i (a : Int), (bl s d i).getLastD a = if d = 0 then a else byteAt s ((i + d - 1 : Nat) : Int)
  | 0, i, a => by simp [bl]
  | d + 1, i, a => by
    rw [bl_snoc, List.getLastD_concat, if_neg (by omega)]
    congr 1
theorem lastOk_bl (s : ByteArray) (e : Nat) : lastOk (bl s (e + 1) 0) = (decide (e = 0) || decide (0 < byteAt s (e : Int))) := by
  cases e with
  | zero => simp [bl, lastOk]
  | succ e =>
    have e1 : bl s (e + 1 + 1) 0 = byteAt s ((0 : Nat) : Int) :: byteAt s ((1 : Nat) : Int) :: bl s e 2 := rfl
    rw [e1]
    simp only [lastOk, getLastD_bl]
    cases e with
    | zero => simp
    | succ e =>
      have : 2 + (e + 1) - 1 = e + 1 + 1 := by omega
      simp [this]
/-- The first place, from i on within d places, of a byte without a mark. -/
def endAt (s : ByteArray) : Nat → Nat → Option Nat
  | 0, _ => none
  | d + 1, i => if 128 ≤ byteAt s (i : Int) then endAt s d (i + 1) else some i
theorem endAt_some (s : ByteArray) : ∀ d i e, endAt s d i = some e → i ≤ e ∧ e < i + d ∧ byteAt s (e : Int) < 128 ∧ ∀ j, i ≤ j → j < e → 128 ≤ byteAt s (j : Int)
  | 0, i, e, h => by simp [endAt] at h
  | d + 1, i, e, h => by
    unfold endAt at h
    split at h
    · rename_i hb
      obtain ⟨h1, h2, h3, h4⟩ := endAt_some s d (i + 1) e h
      refine ⟨by omega, by omega, h3, fun j hj1 hj2 => ?_⟩
      by_cases hij : j = i
      · rw [hij]; exact hb
      · exact h4 j (by omega) hj2
    · injection h with h
      subst h
      exact ⟨by omega, by omega, by omega, fun j h1 h2 => by omega⟩
theorem endAt_none (s : ByteArray) : ∀ d i, endAt s d i = none → ∀ j, i ≤ j → j < i + d → 128 ≤ byteAt s (j : Int)
  | 0, i, _, j, h1, h2 => by omega
  | d + 1, i, h, j, h1, h2 => by
    unfold endAt at h
    split at h
    · rename_i hb
      by_cases hij : j = i
      · rw [hij]; exact hb
      · exact endAt_none s d (i + 1) h j (by omega) (by omega)
    · cases h
/-- The number with which bytes begin, how many bytes it has, and whether there is one. -/
def getB (s : ByteArray) : Int × Int × Bool :=
  match endAt s s.size 0 with
  | none => (0, 0, false)
  | some e => if e ≤ 9 ∧ (e = 9 → byteAt s (e : Int) ≤ 1) ∧ (e = 0 ∨ 0 < byteAt s (e : Int)) then ((dg (bl s (e + 1) 0) : Int), (e : Int) + 1, true) else (0, 0, false)
theorem wraps_u64 (n : Int) (h₀ : 0 ≤ n) (h₁ : n < 2 ^ 64) : IntKind.u64.wrap n = n := u64_id h₀ (by omega)
theorem or_add (a c m : Nat) (ha : a < 2 ^ m) (hm : m ≤ 63) (hs : a + c * 2 ^ m < 2 ^ 64) : Go.bits .or .u64 (a : Int) ((c * 2 ^ m : Nat) : Int) = ((a + c * 2 ^ m : Nat) : Int) := by
  have hc : c * 2 ^ m < 2 ^ 64 := by omega
  have ha' : a < 2 ^ 64 := Nat.lt_of_lt_of_le ha (Nat.pow_le_pow_right (by omega) (by omega))
  rw [(Go.bits_nat .u64 64 (by decide) wraps_u64 a (c * 2 ^ m) ha' hc).2]
  congr 1
  rw [Nat.or_comm, Nat.mul_comm c, ← Nat.two_pow_add_eq_or_of_lt ha, Nat.add_comm]
theorem and_127 (c : Int) (h0 : 0 ≤ c) (h1 : c < 256) : Go.bits .and .u64 c 127 = c % 128 := by
  have := Go.bits_mask .u64 64 (by decide) wraps_u64 7 (by omega) c h0 (by omega)
  simpa using this
theorem shl_u64 (x m : Nat) (hm : m ≤ 63) (hs : x * 2 ^ m < 2 ^ 64) : IntKind.wrap .u64 ((x : Int) * 2 ^ (min (m : Int).toNat 64)) = ((x * 2 ^ m : Nat) : Int) := by
  have e : min ((m : Int).toNat) 64 = m := by simp; omega
  rw [e]
  have e2 : (x : Int) * 2 ^ m = ((x * 2 ^ m : Nat) : Int) := by simp
  rw [e2]
  exact u64_id (by omega) (by omega)
theorem endAt_is (s : ByteArray) (i : Nat) (hi : i < s.size) (hm : ∀ j, j < i → 128 ≤ byteAt s (j : Int)) (hc : byteAt s (i : Int) < 128) : endAt s s.size 0 = some i := by
  cases h : endAt s s.size 0 with
  | none => have := endAt_none s s.size 0 h i (by omega) (by omega); omega
  | some e =>
    obtain ⟨_, h2, h3, h4⟩ := endAt_some s s.size 0 e h
    rcases Nat.lt_trichotomy e i with h5 | h5 | h5
    · have := hm e h5; omega
    · rw [h5]
    · have := h4 i (by omega) h5; omega
theorem endAt_far (s : ByteArray) (i : Nat) (hm : ∀ j, j < i → 128 ≤ byteAt s (j : Int)) (e : Nat) (h : endAt s s.size 0 = some e) : i ≤ e := by
  obtain ⟨_, h2, h3, h4⟩ := endAt_some s s.size 0 e h
  rcases Nat.lt_or_ge e i with h5 | h5
  · have := hm e h5; omega
  · exact h5
theorem getB_far (s : ByteArray) (i : Nat) (hi : 10 ≤ i ∨ s.size ≤ i) (hm : ∀ j, j < i → 128 ≤ byteAt s (j : Int)) : getB s = (0, 0, false) := by
  unfold getB
  cases h : endAt s s.size 0 with
  | none => rfl
  | some e =>
    have h1 := endAt_far s i hm e h
    obtain ⟨_, h2, _, _⟩ := endAt_some s s.size 0 e h
    have : ¬ e ≤ 9 := by omega
    simp [this]
theorem getB_is (s : ByteArray) (i : Nat) (hi : i < s.size) (hm : ∀ j, j < i → 128 ≤ byteAt s (j : Int)) (hc : byteAt s (i : Int) < 128) :
    getB s = if i ≤ 9 ∧ (i = 9 → byteAt s (i : Int) ≤ 1) ∧ (i = 0 ∨ 0 < byteAt s (i : Int)) then ((dg (bl s (i + 1) 0) : Int), (i : Int) + 1, true) else (0, 0, false) := by
  unfold getB
  rw [endAt_is s i hi hm hc]
/-! the reference -/
/-- The remainder of 64 bits (under a name of its own, so that nobody counts). -/
def mod64 (n : Nat) : Nat := n % 18446744073709551616
theorem mod64_eq (n : Nat) : mod64 n = n % 18446744073709551616 := rfl
theorem mod64_lt (n : Nat) : mod64 n < 18446744073709551616 := by rw [mod64_eq]; omega
theorem mod64_small {n : Nat} (h : n < 18446744073709551616) : mod64 n = n := by rw [mod64_eq]; omega
theorem numB_is (n : Nat) (hn : n < 128 ^ 10) (s : ByteArray) (e : Nat) (he : e < s.size) (h9 : e ≤ 9) (hm : ∀ j, j < e → 128 ≤ byteAt s (j : Int)) (hc : byteAt s (e : Int) < 128) (h64 : n = mod64 (dg (bl s (e + 1) 0))) :
    ((numB n).toList = (s.extract 0 (e + 1)).toList) ↔ ((e = 9 → byteAt s (e : Int) ≤ 1) ∧ (e = 0 ∨ 0 < byteAt s (e : Int))) := by
  have hcont := contB_bl s e hm hc e 0 (by omega)
  have hlast := lastOk_bl s e
  have hlen := bl_len s (e + 1) 0
  have hby := bl_bytes s (e + 1) 0
  have hx := bytesOf_bl s (e + 1) (by omega)
  have hsn : dg (bl s (e + 1) 0) = dg (bl s e 0) + 128 ^ e * (byteAt s (e : Int) % 128).toNat := by
    rw [bl_snoc, dg_snoc, bl_len, Nat.zero_add]
  have hd := dg_bound (bl s e 0) (bl_bytes s e 0)
  rw [bl_len] at hd
  have hr := bt_range s (e : Int)
  have hv : (byteAt s (e : Int) % 128).toNat = (byteAt s (e : Int)).toNat := by omega
  constructor
  · intro h
    have h1 := bytes_ext h
    unfold numB at h1
    rw [← hx] at h1
    have h2 := bytesOf_inj _ _ (vput_bytes 10 n) hby h1
    have h3 : dg (bl s (e + 1) 0) = n := by rw [← h2]; exact dg_vput 10 n hn
    have h4 : lastOk (bl s (e + 1) 0) = true := by rw [← h2]; exact vput_last 9 n hn
    rw [hlast] at h4
    refine ⟨fun h9' => ?_, by simpa using h4⟩
    subst h9'
    rw [h3, hv] at hsn
    have : n < 18446744073709551616 := by rw [h64]; exact mod64_lt _
    have h5 : (byteAt s ((9 : Nat) : Int)).toNat ≤ 1 := by
      rcases Nat.lt_or_ge 1 (byteAt s ((9 : Nat) : Int)).toNat with h6 | h6
      · have : 128 ^ 9 * 2 ≤ 128 ^ 9 * (byteAt s ((9 : Nat) : Int)).toNat := Nat.mul_le_mul_left _ h6
        omega
      · exact h6
    omega
  · rintro ⟨h1, h2⟩
    have h4 : lastOk (bl s (e + 1) 0) = true := by rw [hlast]; simpa using h2
    have h5 := vput_dg (bl s (e + 1) 0) 10 (by omega) hby hcont h4
    have h6 : dg (bl s (e + 1) 0) < 18446744073709551616 := by
      by_cases he9 : e = 9
      · subst he9
        have := h1 rfl
        have : (byteAt s ((9 : Nat) : Int)).toNat ≤ 1 := by omega
        have : 128 ^ 9 * (byteAt s ((9 : Nat) : Int)).toNat ≤ 128 ^ 9 * 1 := Nat.mul_le_mul_left _ this
        rw [hsn, hv]
        omega
      · have := dg_bound (bl s (e + 1) 0) hby
        rw [hlen] at this
        have h7 : 128 ^ (e + 1) ≤ 128 ^ 9 := Nat.pow_le_pow_right (by omega) (by omega)
        omega
    have h7 : n = dg (bl s (e + 1) 0) := by rw [h64, mod64_small h6]
    unfold numB
    rw [h7, h5, hx]
theorem lim70 {n : Nat} (h : n < 18446744073709551616) : n < 128 ^ 10 := by omega

theorem get_or (s : ByteArray) (i : Nat) (h9 : i ≤ 9) (hc : i = 9 → byteAt s (i : Int) ≤ 1) :
    IntKind.wrap .u64 ((BitVec.ofInt 64 ((dg (bl s i 0) : Nat) : Int) ||| BitVec.ofInt 64 (IntKind.wrap .u64 ((IntKind.wrap .u64 ((BitVec.ofInt 64 (IntKind.wrap .u64 (byteAt s (i : Int))) &&& BitVec.ofInt 64 127).toNat : Int)) * 2 ^ (min (w64 (7 * (i : Int))).toNat 64)))).toNat : Int) = ((dg (bl s (i + 1) 0) : Nat) : Int) := by
  have hr := bt_range s (i : Int)
  have hp : 128 ^ i = 2 ^ (7 * i) := by rw [show (128 : Nat) = 2 ^ 7 from rfl, ← Nat.pow_mul]
  have hd := dg_bound (bl s i 0) (bl_bytes s i 0)
  rw [bl_len, hp] at hd
  obtain ⟨x, hx⟩ : ∃ x : Nat, byteAt s (i : Int) % 128 = x := ⟨(byteAt s (i : Int) % 128).toNat, by omega⟩
  have hx2 : x ≤ 127 := by omega
  have hb : dg (bl s i 0) + x * 2 ^ (7 * i) < 2 ^ 64 ∧ x * 2 ^ (7 * i) < 2 ^ 64 := by
    by_cases h : i = 9
    · subst h
      have := hc rfl
      have : x ≤ 1 := by omega
      have : x * 2 ^ (7 * 9) ≤ 1 * 2 ^ (7 * 9) := Nat.mul_le_mul_right _ this
      omega
    · have h1 : 2 ^ (7 * i) ≤ 2 ^ 56 := Nat.pow_le_pow_right (by omega) (by omega)
      have : x * 2 ^ (7 * i) ≤ 127 * 2 ^ 56 := Nat.mul_le_mul hx2 h1
      omega
  have e1 : IntKind.wrap .u64 ((BitVec.ofInt 64 (IntKind.wrap .u64 (byteAt s (i : Int))) &&& BitVec.ofInt 64 127).toNat : Int) = (x : Int) := by
    rw [u64_id hr.1 (by omega), ← hx]
    exact and_127 _ hr.1 (by omega)
  rw [e1, w64_id (by omega) (by omega), show (7 * (i : Int)) = ((7 * i : Nat) : Int) by omega, shl_u64 x (7 * i) (by omega) hb.2]
  refine (or_add _ x (7 * i) hd (by omega) hb.1).trans ?_
  congr 1
  rw [bl_snoc, dg_snoc, bl_len, hp, Nat.zero_add, hx, Int.toNat_natCast, Nat.mul_comm]
theorem min10 (n : Nat) : (if (10 : Int) < (n : Int) then (10 : Int) else (n : Int)) = ((min n 10 : Nat) : Int) := by split <;> omega
theorem Get_l (s : ByteArray) (hs : s.size ≤ 140737488351232) : ∀ d i : Nat, i + d = min s.size 10 → (∀ j, j < i → 128 ≤ byteAt s (j : Int)) →
    V.varint_Get.l1010 s ((dg (bl s i 0) : Nat) : Int) (i : Int) = some (getB s)
  | 0, i, h, hm => by
    refine V.varint_Get.l1010.of _ _ _ ?_
    unfold F.varint_Get.l1010.B
    rw [min10, if_out (by omega), getB_far s i (by omega) hm]
  | d + 1, i, h, hm => by
    refine V.varint_Get.l1010.of _ _ _ ?_
    unfold F.varint_Get.l1010.B
    have hr := bt_range s (i : Int)
    have hi : i < s.size := by omega
    have ih : byteAt s (i : Int) ≥ 128 → V.varint_Get.l1010 s ((dg (bl s (i + 1) 0) : Nat) : Int) ((i + 1 : Nat) : Int) = some (getB s) := fun hc => Get_l s hs d (i + 1) (by omega) (fun j hj => by
      by_cases hij : j = i
      · rw [hij]; omega
      · exact hm j (by omega))
    have eu : IntKind.wrap .u64 (byteAt s (i : Int)) = byteAt s (i : Int) := u64_id hr.1 (by omega)
    rw [min10, if_in (by omega), guard_in hi]
    have e7 : w64 (7 * (i : Int)) = 7 * (i : Int) := w64_id (by omega) (by omega)
    have e8 : w64 ((i : Int) + 1) = ((i + 1 : Nat) : Int) := w64_up hi hs
    have rest : (i = 9 → byteAt s (i : Int) ≤ 1) → (if (w64 (7 * (i : Int))) < 0 then none else (bif (decide ((IntKind.wrap .u64 (byteAt s (i : Int))) ≥ 128)) then (V.varint_Get.l1010 s ((dg (bl s (i + 1) 0) : Nat) : Int) (w64 ((i : Int) + 1))) else (bif ((IntKind.wrap .u64 (byteAt s (i : Int))) == 0) then (bif (decide ((i : Int) > 0)) then (some (0, 0, false)) else (some (((dg (bl s (i + 1) 0) : Nat) : Int), (w64 ((i : Int) + 1)), true))) else (some (((dg (bl s (i + 1) 0) : Nat) : Int), (w64 ((i : Int) + 1)), true))))) = some (getB s) := by
      intro hc9
      rw [e7, e8, if_neg (by omega), eu]
      by_cases hc : byteAt s (i : Int) < 128
      · rw [if_no (by omega), getB_is s i hi hm hc]
        by_cases h0 : byteAt s (i : Int) = 0
        · rw [show (byteAt s (i : Int) == 0) = true by simp [h0], cond_true]
          by_cases hi0 : i = 0
          · rw [if_no (by omega), if_pos ⟨by omega, hc9, Or.inl hi0⟩]; rfl
          · rw [if_yes (by omega), if_neg (by rintro ⟨_, _, h3⟩; omega)]
        · rw [show (byteAt s (i : Int) == 0) = false by simp [h0], cond_false, if_pos ⟨by omega, hc9, Or.inr (by omega)⟩]; rfl
      · rw [if_yes (by omega)]
        exact ih (by omega)
    by_cases h9 : i = 9
    · rw [show ((i : Int) == 9) = true by simp; omega, cond_true]
      by_cases hb : byteAt s (i : Int) ≤ 1
      · rw [if_no (by rw [eu]; omega), get_or s i (by omega) (fun _ => hb)]
        exact rest (fun _ => hb)
      · rw [if_yes (by rw [eu]; omega)]
        by_cases hc : byteAt s (i : Int) < 128
        · rw [getB_is s i hi hm hc, if_neg (by rintro ⟨_, h1, _⟩; have := h1 h9; omega)]
        · rw [getB_far s (i + 1) (by omega) (fun j hj => by
            by_cases hij : j = i
            · rw [hij]; omega
            · exact hm j (by omega))]
    · rw [show ((i : Int) == 9) = false by simp; omega, cond_false, get_or s i (by omega) (fun h => absurd h h9)]
      exact rest (fun h => absurd h h9)
theorem Get_ok (s : ByteArray) (hs : s.size ≤ 140737488351232) : V.varint_Get s = some (getB s) := by
  refine V.varint_Get.of _ ?_
  unfold F.varint_Get.B
  have := Get_l s hs (min s.size 10) 0 (by omega) (fun j hj => by omega)
  simpa [bl, dg] using this
/-! ### What stands where -/

/-- These bytes stand in s at place a. -/
def AtB (s : ByteArray) (a : Nat) (B : ByteArray) : Prop := a + B.size ≤ s.size ∧ s.extract a (a + B.size) = B
theorem dlen (s : ByteArray) : s.data.toList.length = s.size := data_len s
theorem extract_toList (s : ByteArray) (a b : Nat) : (s.extract a b).data.toList = (s.data.toList.drop a).take (b - a) := by
  rw [ByteArray.data_extract, Array.toList_extract, List.extract_eq_take_drop]
theorem at_iff (s : ByteArray) (a : Nat) (B : ByteArray) (h : a ≤ s.size) : AtB s a B ↔ B.data.toList <+: s.data.toList.drop a := by
  have hl := dlen s
  have hb := dlen B
  constructor
  · rintro ⟨h1, h2⟩
    have h3 := extract_toList s a (a + B.size)
    rw [h2] at h3
    rw [h3]
    exact List.take_prefix _ _
  · intro hp
    have hle := hp.length_le
    rw [List.length_drop, hl, hb] at hle
    refine ⟨by omega, ?_⟩
    apply ByteArray.ext
    apply Array.ext'
    rw [extract_toList]
    have := List.prefix_iff_eq_take.1 hp
    rw [hb] at this
    rw [show a + B.size - a = B.size by omega]
    exact this.symm
theorem at_append (s : ByteArray) (a : Nat) (X Y : ByteArray) : AtB s a (X ++ Y) ↔ AtB s a X ∧ AtB s (a + X.size) Y := by
  have hs := ByteArray.size_append (a := X) (b := Y)
  have hx := dlen X
  constructor
  · rintro ⟨h1, h2⟩
    have ha : a ≤ s.size := by omega
    have hp := (at_iff s a (X ++ Y) ha).1 ⟨h1, h2⟩
    rw [ByteArray.data_append, Array.toList_append] at hp
    refine ⟨(at_iff s a X ha).2 (List.IsPrefix.trans (List.prefix_append _ _) hp), (at_iff s _ Y (by omega)).2 ?_⟩
    obtain ⟨t, ht⟩ := hp
    refine ⟨t, ?_⟩
    rw [← List.drop_drop, ← ht, List.append_assoc, ← hx, List.drop_left]
  · rintro ⟨h1, h2⟩
    have ha : a ≤ s.size := by have := h1.1; omega
    have hp := (at_iff s a X ha).1 h1
    have hq := (at_iff s (a + X.size) Y (by have := h2.1; omega)).1 h2
    refine (at_iff s a (X ++ Y) ha).2 ?_
    rw [ByteArray.data_append, Array.toList_append]
    obtain ⟨t, ht⟩ := hp
    obtain ⟨u, hu⟩ := hq
    refine ⟨u, ?_⟩
    rw [← List.drop_drop, ← ht, ← hx, List.drop_left] at hu
    rw [List.append_assoc, hu, ht]
theorem at_nil (s : ByteArray) (a : Nat) (h : a ≤ s.size) : AtB s a ⟨#[]⟩ := (at_iff s a _ h).2 (List.nil_prefix)
theorem at_whole (s : ByteArray) : AtB s 0 s := ⟨by omega, by simp⟩
theorem at_all {s B : ByteArray} (h : AtB s 0 B) (hs : B.size = s.size) : B = s := by
  have := h.2
  rw [Nat.zero_add, hs] at this
  rw [← this]
  simp
theorem tail_extract (s : ByteArray) (a m : Nat) (h : a + m ≤ s.size) : (s.extract a s.size).extract 0 m = s.extract a (a + m) := by
  apply ByteArray.ext
  apply Array.ext'
  rw [extract_toList, extract_toList, extract_toList, List.drop_zero, List.take_take]
  congr 1
  omega
theorem tail_size (s : ByteArray) (a : Nat) : (s.extract a s.size).size = s.size - a := by rw [ByteArray.size_extract]; omega

theorem contB_bl_conv (s : ByteArray) : ∀ d i, contB (bl s (d + 1) i) = true → (∀ j, i ≤ j → j < i + d → 128 ≤ byteAt s (j : Int)) ∧ byteAt s ((i + d : Nat) : Int) < 128
  | 0, i, h => by
    simp [bl, contB] at h
    exact ⟨fun j h1 h2 => by omega, by simpa using h⟩
  | d + 1, i, h => by
    have e1 : bl s (d + 1 + 1) i = byteAt s (i : Int) :: byteAt s ((i + 1 : Nat) : Int) :: bl s d (i + 1 + 1) := rfl
    have e2 : bl s (d + 1) (i + 1) = byteAt s ((i + 1 : Nat) : Int) :: bl s d (i + 1 + 1) := rfl
    rw [e1] at h
    simp only [contB, Bool.and_eq_true, decide_eq_true_eq] at h
    rw [← e2] at h
    obtain ⟨h1, h2⟩ := contB_bl_conv s d (i + 1) h.2
    refine ⟨fun j hj1 hj2 => ?_, by rw [show i + (d + 1) = i + 1 + d by omega]; exact h2⟩
    by_cases hij : j = i
    · rw [hij]; exact h.1
    · exact h1 j (by omega) (by omega)
theorem dg_lt (s : ByteArray) (e : Nat) (h9 : e ≤ 9) (hc : byteAt s (e : Int) < 128) (h1 : e = 9 → byteAt s (e : Int) ≤ 1) : dg (bl s (e + 1) 0) < 18446744073709551616 := by
  have hby := bl_bytes s (e + 1) 0
  have hlen := bl_len s (e + 1) 0
  have hsn : dg (bl s (e + 1) 0) = dg (bl s e 0) + 128 ^ e * (byteAt s (e : Int) % 128).toNat := by rw [bl_snoc, dg_snoc, bl_len, Nat.zero_add]
  have hd := dg_bound (bl s e 0) (bl_bytes s e 0)
  rw [bl_len] at hd
  have hr := bt_range s (e : Int)
  have hv : (byteAt s (e : Int) % 128).toNat = (byteAt s (e : Int)).toNat := by omega
  by_cases he9 : e = 9
  · subst he9
    have := h1 rfl
    have : (byteAt s ((9 : Nat) : Int)).toNat ≤ 1 := by omega
    have : 128 ^ 9 * (byteAt s ((9 : Nat) : Int)).toNat ≤ 128 ^ 9 * 1 := Nat.mul_le_mul_left _ this
    rw [hsn, hv]
    omega
  · have := dg_bound (bl s (e + 1) 0) hby
    rw [hlen] at this
    have h7 : 128 ^ (e + 1) ≤ 128 ^ 9 := Nat.pow_le_pow_right (by omega) (by omega)
    omega
/-- A number's own bytes, and only they, are read as it. -/
theorem getB_iff (x : ByteArray) (N m : Nat) (h64 : N < 18446744073709551616) : getB x = ((N : Int), (m : Int), true) ↔ (m = (numB N).size ∧ AtB x 0 (numB N)) := by
  constructor
  · intro h
    cases he : endAt x x.size 0 with
    | none => unfold getB at h; rw [he] at h; simp at h
    | some e =>
      obtain ⟨_, h2, h3, h4⟩ := endAt_some x x.size 0 e he
      rw [getB_is x e (by omega) (fun j hj => h4 j (by omega) hj) h3] at h
      by_cases hq : e ≤ 9 ∧ (e = 9 → byteAt x (e : Int) ≤ 1) ∧ (e = 0 ∨ 0 < byteAt x (e : Int))
      · rw [if_pos hq] at h
        simp only [Prod.mk.injEq] at h
        have hN : dg (bl x (e + 1) 0) = N := by omega
        have hm : m = e + 1 := by omega
        have key := (numB_is N (lim70 h64) x e (by omega) hq.1 (fun j hj => h4 j (by omega) hj) h3 (by rw [hN, mod64_small h64])).2 ⟨hq.2.1, hq.2.2⟩
        have hb := bytes_ext key
        have hz : (numB N).size = e + 1 := by rw [hb, ByteArray.size_extract]; omega
        exact ⟨by omega, by omega, by rw [hz, Nat.zero_add, ← hb]⟩
      · rw [if_neg hq] at h
        simp at h
  · rintro ⟨rfl, h1, h2⟩
    have hp : 0 < (vput 10 N).length := vput_pos 9 N
    have hz : (numB N).size = (vput 10 N).length := strOfNums_size _
    obtain ⟨e, he⟩ : ∃ e, (numB N).size = e + 1 := ⟨(numB N).size - 1, by omega⟩
    rw [Nat.zero_add] at h1 h2
    have hx := bytesOf_bl x (numB N).size h1
    rw [h2] at hx
    have hl := bytesOf_inj _ _ (bl_bytes x _ 0) (vput_bytes 10 N) hx
    have hc := contB_vput 9 N (lim70 h64)
    rw [← hl, he] at hc
    obtain ⟨g1, g2⟩ := contB_bl_conv x e 0 hc
    rw [Nat.zero_add] at g2
    have h10 := numB_size N
    have hdg : dg (bl x (e + 1) 0) = N := by rw [← he, hl]; exact dg_vput 10 N (lim70 h64)
    have key := (numB_is N (lim70 h64) x e (by omega) (by omega) (fun j hj => g1 j (by omega) (by omega)) g2 (by rw [hdg, mod64_small h64])).1 (by rw [← he, h2])
    rw [getB_is x e (by omega) (fun j hj => g1 j (by omega) (by omega)) g2, if_pos ⟨by omega, key.1, key.2⟩, hdg, he]
    rfl
theorem getB_form (x : ByteArray) : (∃ N m : Nat, N < 18446744073709551616 ∧ getB x = ((N : Int), (m : Int), true)) ∨ getB x = (0, 0, false) := by
  unfold getB
  cases he : endAt x x.size 0 with
  | none => exact .inr rfl
  | some e =>
    obtain ⟨_, h2, h3, h4⟩ := endAt_some x x.size 0 e he
    by_cases hq : e ≤ 9 ∧ (e = 9 → byteAt x (e : Int) ≤ 1) ∧ (e = 0 ∨ 0 < byteAt x (e : Int))
    · left
      exact ⟨dg (bl x (e + 1) 0), e + 1, dg_lt x e hq.1 h3 hq.2.1, by simp only [if_pos hq]; rfl⟩
    · right
      simp only [if_neg hq]
/-- The number, of at most 64 bits, whose bytes stand at a place, and the place behind it. -/
def uP (s : ByteArray) (a : Nat) : Option (Nat × Nat) := if (getB (s.extract a s.size)).2.2 = true then some ((getB (s.extract a s.size)).1.toNat, a + (getB (s.extract a s.size)).2.1.toNat) else none
theorem uP_iff (s : ByteArray) (a N b : Nat) (ha : a ≤ s.size) : uP s a = some (N, b) ↔ N < 18446744073709551616 ∧ b = a + (numB N).size ∧ AtB s a (numB N) := by
  have tr : ∀ B : ByteArray, AtB (s.extract a s.size) 0 B ↔ AtB s a B := by
    intro B
    unfold AtB
    rw [tail_size, Nat.zero_add]
    constructor
    · rintro ⟨h1, h2⟩; exact ⟨by omega, by rw [← tail_extract s a B.size (by omega)]; exact h2⟩
    · rintro ⟨h1, h2⟩; exact ⟨by omega, by rw [tail_extract s a B.size (by omega)]; exact h2⟩
  unfold uP
  rcases getB_form (s.extract a s.size) with ⟨M, m, hM, hg⟩ | hg
  · have := (getB_iff _ M m hM).1 hg
    rw [hg]
    simp only [if_true, Int.toNat_natCast, Option.some.injEq, Prod.mk.injEq]
    constructor
    · rintro ⟨rfl, rfl⟩
      exact ⟨hM, by rw [this.1], (tr _).1 this.2⟩
    · rintro ⟨h1, h2, h3⟩
      have g := (getB_iff (s.extract a s.size) N (numB N).size h1).2 ⟨rfl, (tr _).2 h3⟩
      rw [hg] at g
      simp only [Prod.mk.injEq] at g
      omega
  · rw [hg]
    simp only [Bool.false_eq_true, if_false]
    constructor
    · intro h; cases h
    · rintro ⟨h1, h2, h3⟩
      have g := (getB_iff (s.extract a s.size) N (numB N).size h1).2 ⟨rfl, (tr _).2 h3⟩
      rw [hg] at g
      simp at g
def numP (most : Nat) (s : ByteArray) (a : Nat) : Option (Nat × Nat) := (uP s a).bind fun x => if x.1 ≤ most then some x else none
theorem numP_iff (most : Nat) (hm : most < 18446744073709551616) (s : ByteArray) (a N b : Nat) (ha : a ≤ s.size) : numP most s a = some (N, b) ↔ N ≤ most ∧ b = a + (numB N).size ∧ AtB s a (numB N) := by
  unfold numP
  rw [Option.bind_eq_some_iff]
  constructor
  · rintro ⟨⟨M, c⟩, h1, h2⟩
    split at h2
    · rename_i h3
      simp only [Option.some.injEq, Prod.mk.injEq] at h2
      obtain ⟨rfl, rfl⟩ := h2
      exact ⟨h3, ((uP_iff s a M c ha).1 h1).2⟩
    · cases h2
  · rintro ⟨h1, h2, h3⟩
    exact ⟨(N, b), (uP_iff s a N b ha).2 ⟨by omega, h2, h3⟩, by rw [if_pos h1]⟩
def fixP (n : Nat) (s : ByteArray) (a : Nat) : Option (ByteArray × Nat) := if a + n ≤ s.size then some (s.extract a (a + n), a + n) else none
theorem fixP_iff (n : Nat) (s : ByteArray) (a : Nat) (t : ByteArray) (b : Nat) : fixP n s a = some (t, b) ↔ t.size = n ∧ b = a + n ∧ AtB s a t := by
  unfold fixP AtB
  constructor
  · intro h
    split at h
    · rename_i h1
      simp only [Option.some.injEq, Prod.mk.injEq] at h
      obtain ⟨rfl, rfl⟩ := h
      have : (s.extract a (a + n)).size = n := by rw [ByteArray.size_extract]; omega
      exact ⟨this, rfl, by omega, by rw [this]⟩
    · cases h
  · rintro ⟨rfl, rfl, h1, h2⟩
    rw [if_pos h1, h2]
def textP (most : Nat) (s : ByteArray) (a : Nat) : Option (ByteArray × Nat) := (numP most s a).bind fun x => fixP x.1 s x.2
theorem textP_iff (most : Nat) (hm : most < 18446744073709551616) (s : ByteArray) (a : Nat) (t : ByteArray) (b : Nat) (ha : a ≤ s.size) : textP most s a = some (t, b) ↔ t.size ≤ most ∧ b = a + (textB t).size ∧ AtB s a (textB t) := by
  unfold textP textB
  rw [Option.bind_eq_some_iff, at_append, ByteArray.size_append]
  constructor
  · rintro ⟨⟨N, c⟩, h1, h2⟩
    obtain ⟨g1, rfl, g3⟩ := (numP_iff most hm s a N c ha).1 h1
    obtain ⟨rfl, rfl, k3⟩ := (fixP_iff _ _ _ _ _).1 h2
    exact ⟨g1, by simp only; omega, g3, k3⟩
  · rintro ⟨h1, h2, h3, h4⟩
    exact ⟨(t.size, a + (numB t.size).size), (numP_iff most hm s a _ _ ha).2 ⟨h1, rfl, h3⟩, (fixP_iff _ _ _ _ _).2 ⟨rfl, by simp only; omega, h4⟩⟩
end Go.Proofs.Ytdblhdpnllckhaa.AE
end
section
set_option linter.unusedVariables false
set_option linter.unusedSimpArgs false
set_option maxRecDepth 4000
namespace Go.Proofs.Ytdblhdpnllckhaa.AE
open Go

theorem uP_get (s : ByteArray) (a : Nat) (hs : s.size ≤ 140737488351232) : (∃ N m : Nat, N < 18446744073709551616 ∧ getB (s.extract a s.size) = ((N : Int), (m : Int), true) ∧ uP s a = some (N, a + m)) ∨ (getB (s.extract a s.size) = (0, 0, false) ∧ uP s a = none) := by
  unfold uP
  rcases getB_form (s.extract a s.size) with ⟨N, m, hN, hg⟩ | hg
  · left; exact ⟨N, m, hN, hg, by rw [hg]; simp⟩
  · right; exact ⟨hg, by rw [hg]; simp⟩
theorem uP_le (s : ByteArray) (a N b : Nat) (ha : a ≤ s.size) (h : uP s a = some (N, b)) : N < 18446744073709551616 ∧ b ≤ s.size := by
  obtain ⟨h1, h2, h3⟩ := (uP_iff s a N b ha).1 h
  have := h3.1
  exact ⟨h1, by omega⟩
theorem Err_ok (s : ByteArray) (p e : Int) : V.scan_Scan_Err (s, p, e, true) = some (e, s, p, e, true) := by
  refine V.scan_Scan_Err.of _ ?_
  unfold F.scan_Scan_Err.B
  rfl
theorem fail_ok (s : ByteArray) (p e f : Int) : V.scan_Scan_fail (s, p, e, true) f = some (s, p, if e = 0 then f else e, true) := by
  refine V.scan_Scan_fail.of _ _ ?_
  unfold F.scan_Scan_fail.B
  dsimp only
  rw [Err_ok, Option.bind_some]
  by_cases h : e = 0 <;> simp [Bool.cond_eq_ite, h]
theorem Num_err (s : ByteArray) (p e : Int) (he : e ≠ 0) (most : Int) : V.scan_Scan_Num (s, p, e, true) most = some (0, s, p, e, true) := by
  refine V.scan_Scan_Num.of _ _ ?_
  unfold F.scan_Scan_Num.B
  dsimp only
  rw [Err_ok, Option.bind_some]
  simp [Bool.cond_eq_ite, he]
theorem Num_both (s : ByteArray) (hs : s.size ≤ 140737488351232) (a : Nat) (ha : a ≤ s.size) (most : Nat) (hm : most ≤ 100000) :
    (∃ n b, numP most s a = some (n, b) ∧ V.scan_Scan_Num (s, (a : Int), 0, true) (most : Int) = some ((n : Int), s, (b : Int), 0, true)) ∨
    (numP most s a = none ∧ ∃ e : Int, e ≠ 0 ∧ V.scan_Scan_Num (s, (a : Int), 0, true) (most : Int) = some (0, s, (a : Int), e, true)) := by
  have hx := extract_size s a s.size
  have B : ∀ {r}, F.scan_Scan_Num.B V.scan_Scan_Err V.varint_Get V.scan_Scan_fail (s, (a : Int), 0, true) (most : Int) = some r → V.scan_Scan_Num (s, (a : Int), 0, true) (most : Int) = some r := V.scan_Scan_Num.of _ _
  unfold F.scan_Scan_Num.B at B
  dsimp only at B
  rw [Err_ok, Option.bind_some] at B
  dsimp only at B
  rw [guard_of (by simp; omega), nat_cast, nat_cast, Get_ok _ (by omega), Option.bind_some] at B
  simp only [bne_self_eq_false, cond_false] at B
  unfold numP
  rcases uP_get s a hs with ⟨N, m, hN, hg, hu⟩ | ⟨hg, hu⟩
  · have hb := (uP_le s a N (a + m) ha hu).2
    rw [hg] at B
    rw [hu, Option.bind_some]
    dsimp only at B ⊢
    simp only [Bool.not_true, cond_false] at B
    rw [if_no (show ¬ (most : Int) < 0 by omega), u64_id (x := (most : Int)) (by omega) (by omega)] at B
    by_cases hle : N ≤ most
    · left
      refine ⟨N, a + m, by rw [if_pos hle], B ?_⟩
      rw [if_no (by omega), w64_id (by omega) (by omega), w64_id (by omega) (by omega)]
      rfl
    · right
      refine ⟨by rw [if_neg hle], 5, by omega, B ?_⟩
      rw [if_yes (by omega), fail_ok, Option.bind_some]
      rfl
  · right
    rw [hg] at B
    rw [hu]
    dsimp only at B ⊢
    refine ⟨rfl, 3, by omega, B ?_⟩
    rw [fail_ok, Option.bind_some]
    rfl
theorem take_err (s : ByteArray) (p e : Int) (he : e ≠ 0) (n : Int) : V.scan_Scan_take (s, p, e, true) n = some (⟨#[]⟩, s, p, e, true) := by
  refine V.scan_Scan_take.of _ _ ?_
  unfold F.scan_Scan_take.B
  dsimp only
  rw [Err_ok, Option.bind_some]
  simp [Bool.cond_eq_ite, he]
theorem take_both (s : ByteArray) (hs : s.size ≤ 140737488351232) (a : Nat) (ha : a ≤ s.size) (n : Nat) (hn : n ≤ 140737488351232) :
    (∃ t b, fixP n s a = some (t, b) ∧ V.scan_Scan_take (s, (a : Int), 0, true) (n : Int) = some (t, s, (b : Int), 0, true)) ∨
    (fixP n s a = none ∧ V.scan_Scan_take (s, (a : Int), 0, true) (n : Int) = some (⟨#[]⟩, s, (a : Int), 3, true)) := by
  have B : ∀ {r}, F.scan_Scan_take.B V.scan_Scan_Err (s, (a : Int), 0, true) (n : Int) = some r → V.scan_Scan_take (s, (a : Int), 0, true) (n : Int) = some r := V.scan_Scan_take.of _ _
  unfold F.scan_Scan_take.B at B
  dsimp only at B
  rw [Err_ok, Option.bind_some] at B
  dsimp only at B
  simp only [bne_self_eq_false, cond_false] at B
  rw [if_no (show ¬ (n : Int) < 0 by omega), w64_id (x := (s.size : Int) - (a : Int)) (by omega) (by omega), w64_id (x := (a : Int) + (n : Int)) (by omega) (by omega)] at B
  unfold fixP
  by_cases hle : a + n ≤ s.size
  · left
    refine ⟨s.extract a (a + n), a + n, by rw [if_pos hle], B ?_⟩
    rw [if_no (by omega), guard_of (by simp; omega)]
    rfl
  · right
    refine ⟨by rw [if_neg hle], B ?_⟩
    rw [if_yes (by omega)]
theorem Text_err (s : ByteArray) (p e : Int) (he : e ≠ 0) (most : Int) : V.scan_Scan_Text (s, p, e, true) most = some (⟨#[]⟩, s, p, e, true) := by
  refine V.scan_Scan_Text.of _ _ ?_
  unfold F.scan_Scan_Text.B
  dsimp only
  rw [Num_err s p e he, Option.bind_some]
  dsimp only
  rw [take_err s p e he, Option.bind_some]
theorem numP_le {most : Nat} {s : ByteArray} {a n b : Nat} (ha : a ≤ s.size) (h : numP most s a = some (n, b)) : n ≤ most ∧ b ≤ s.size := by
  unfold numP at h
  obtain ⟨⟨M, c⟩, h1, h2⟩ := Option.bind_eq_some_iff.1 h
  split at h2
  · rename_i h3
    simp only [Option.some.injEq, Prod.mk.injEq] at h2
    obtain ⟨rfl, rfl⟩ := h2
    exact ⟨h3, (uP_le s a _ _ ha h1).2⟩
  · cases h2
theorem fixP_le {n : Nat} {s : ByteArray} {a : Nat} {t : ByteArray} {b : Nat} (h : fixP n s a = some (t, b)) : b ≤ s.size ∧ t.size = n := by
  obtain ⟨h1, h2, h3⟩ := (fixP_iff n s a t b).1 h
  have := h3.1
  exact ⟨by omega, h1⟩
theorem Text_both (s : ByteArray) (hs : s.size ≤ 140737488351232) (a : Nat) (ha : a ≤ s.size) (most : Nat) (hm : most ≤ 100000) :
    (∃ t b, textP most s a = some (t, b) ∧ b ≤ s.size ∧ t.size ≤ most ∧ V.scan_Scan_Text (s, (a : Int), 0, true) (most : Int) = some (t, s, (b : Int), 0, true)) ∨
    (textP most s a = none ∧ ∃ p e : Int, e ≠ 0 ∧ V.scan_Scan_Text (s, (a : Int), 0, true) (most : Int) = some (⟨#[]⟩, s, p, e, true)) := by
  have B : ∀ {r}, F.scan_Scan_Text.B V.scan_Scan_Num V.scan_Scan_take (s, (a : Int), 0, true) (most : Int) = some r → V.scan_Scan_Text (s, (a : Int), 0, true) (most : Int) = some r := V.scan_Scan_Text.of _ _
  unfold F.scan_Scan_Text.B at B
  dsimp only at B
  unfold textP
  rcases Num_both s hs a ha most hm with ⟨n, b, h1, h2⟩ | ⟨h1, e, he, h2⟩
  · obtain ⟨h3, h4⟩ := numP_le ha h1
    rw [h2, Option.bind_some] at B
    rw [h1, Option.bind_some]
    dsimp only at B ⊢
    rcases take_both s hs b h4 n (by omega) with ⟨t, c, g1, g2⟩ | ⟨g1, g2⟩
    · left
      have := fixP_le g1
      exact ⟨t, c, g1, this.1, by omega, B (by rw [g2, Option.bind_some])⟩
    · right
      exact ⟨g1, (b : Int), 3, by omega, B (by rw [g2, Option.bind_some])⟩
  · right
    rw [h2, Option.bind_some] at B
    rw [h1]
    refine ⟨rfl, (a : Int), e, he, B ?_⟩
    dsimp only
    rw [take_err s _ e he, Option.bind_some]
theorem Byte_err (s : ByteArray) (p e : Int) (he : e ≠ 0) : V.scan_Scan_Byte (s, p, e, true) = some (0, s, p, e, true) := by
  refine V.scan_Scan_Byte.of _ ?_
  unfold F.scan_Scan_Byte.B
  dsimp only
  rw [take_err s p e he, Option.bind_some]
  dsimp only
  rw [strEq_self]
  rfl
theorem bt_extract (s : ByteArray) (a : Nat) (h : a < s.size) : byteAt (s.extract a (a + 1)) 0 = byteAt s (a : Int) := by
  have hz : (s.extract a (a + 1)).size = 1 := by rw [ByteArray.size_extract]; omega
  have h1 := bt_data (s.extract a (a + 1)) 0 (by omega)
  rw [bt_data s a h]
  rw [show ((0 : Nat) : Int) = 0 from rfl] at h1
  rw [h1]
  simp only [extract_toList]
  rw [List.getElem_take, List.getElem_drop]
  simp
theorem Byte_both (s : ByteArray) (hs : s.size ≤ 140737488351232) (a : Nat) (ha : a ≤ s.size) :
    (a < s.size ∧ V.scan_Scan_Byte (s, (a : Int), 0, true) = some (byteAt s (a : Int), s, ((a + 1 : Nat) : Int), 0, true)) ∨
    (¬ a < s.size ∧ V.scan_Scan_Byte (s, (a : Int), 0, true) = some (0, s, (a : Int), 3, true)) := by
  have B : ∀ {r}, F.scan_Scan_Byte.B V.scan_Scan_take (s, (a : Int), 0, true) = some r → V.scan_Scan_Byte (s, (a : Int), 0, true) = some r := V.scan_Scan_Byte.of _
  unfold F.scan_Scan_Byte.B at B
  dsimp only at B
  rcases take_both s hs a ha 1 (by omega) with ⟨t, b, h1, h2⟩ | ⟨h1, h2⟩
  · left
    obtain ⟨g1, g2, g3⟩ := (fixP_iff 1 s a t b).1 h1
    have h3 := g3.1
    have h4 := g3.2
    rw [g1] at h3 h4
    have hr := bt_range s (a : Int)
    rw [show (1 : Int) = ((1 : Nat) : Int) from rfl, h2, Option.bind_some] at B
    refine ⟨by omega, B ?_⟩
    dsimp only
    have e0 : byteAt t 0 = byteAt s (a : Int) := by rw [← h4]; exact bt_extract s a (by omega)
    rw [strEq_nil, show (t.size == 0) = false by simp [g1], cond_false, guard_dec (by omega), e0, w64_id (by omega) (by omega), g2]
  · right
    have : ¬ a + 1 ≤ s.size := by
      intro hle
      unfold fixP at h1
      rw [if_pos hle] at h1
      cases h1
    rw [show (1 : Int) = ((1 : Nat) : Int) from rfl, h2, Option.bind_some] at B
    refine ⟨by omega, B ?_⟩
    dsimp only
    rw [strEq_self]
    rfl
/-- It leads back from a number's place among 0, -1, 1, -2, 2. -/
def zag (n : Nat) : Int := if n % 2 = 0 then ((n / 2 : Nat) : Int) else -((n / 2 : Nat) : Int) - 1
theorem zag_range (n : Nat) (h : n < 18446744073709551616) : -9223372036854775808 ≤ zag n ∧ zag n ≤ 9223372036854775807 := by unfold zag; split <;> omega
theorem zig_zag (n : Nat) : zig (zag n) = n := by unfold zig zag; split <;> split <;> omega
theorem zag_zig (a : Int) : zag (zig a).toNat = a := by unfold zig zag; split <;> split <;> omega
theorem xor_i0 (n : Nat) (h : n < 9223372036854775808) : w64 ((BitVec.ofInt 64 (n : Int) ^^^ BitVec.ofInt 64 0).toNat : Int) = (n : Int) := by
  have e2 : (BitVec.ofInt 64 (n : Int) ^^^ BitVec.ofInt 64 0).toNat = n := by
    have : BitVec.ofInt 64 0 = 0#64 := rfl
    rw [this, BitVec.xor_zero, BitVec.toNat_ofInt]
    omega
  rw [e2, w64_id (by omega) (by omega)]
theorem w64_mod (x : Int) : w64 x = (x + 9223372036854775808) % 18446744073709551616 - 9223372036854775808 := by
  show IntKind.i64.wrap x = _
  rw [Go.IntKind.wrap_i64]
theorem xor_i1 (n : Nat) (h : n < 9223372036854775808) : w64 ((BitVec.ofInt 64 (n : Int) ^^^ BitVec.ofInt 64 (-1)).toNat : Int) = -(n : Int) - 1 := by
  have : BitVec.ofInt 64 (-1) = BitVec.allOnes 64 := by decide
  rw [this, BitVec.xor_allOnes, BitVec.toNat_not, BitVec.toNat_ofInt, w64_mod]
  omega
theorem Zag_ok (n : Nat) (h : n < 18446744073709551616) : V.varint_Zag (n : Int) = some (zag n) := by
  have e1 : IntKind.wrap .u64 ((BitVec.ofInt 64 (n : Int) &&& BitVec.ofInt 64 1).toNat : Int) = ((n % 2 : Nat) : Int) := by
    have := Go.bits_mask .u64 64 (by decide) wraps_u64 1 (by omega) (n : Int) (by omega) (by omega)
    rw [show ((2 : Int) ^ 1 - 1) = 1 from rfl] at this
    refine this.trans ?_
    omega
  refine V.varint_Zag.of _ ?_
  unfold F.varint_Zag.B zag
  have e2 : Int.fdiv (n : Int) (2 ^ 1) = ((n / 2 : Nat) : Int) := by rw [Int.fdiv_eq_ediv_of_nonneg _ (by decide)]; rfl
  rw [e1, e2, w64_id (x := ((n / 2 : Nat) : Int)) (by omega) (by omega), w64_id (x := ((n % 2 : Nat) : Int)) (by omega) (by omega), w64_id (x := 0 - ((n % 2 : Nat) : Int)) (by omega) (by omega)]
  split
  · rename_i h0
    rw [h0, show (0 - ((0 : Nat) : Int)) = 0 from rfl, xor_i0 _ (by omega)]
  · rename_i h0
    rw [show n % 2 = 1 by omega, show (0 - ((1 : Nat) : Int)) = -1 from rfl, xor_i1 _ (by omega)]
def intP (s : ByteArray) (a : Nat) : Option (Int × Nat) := (uP s a).bind fun x => some (zag x.1, x.2)
theorem intP_iff (s : ByteArray) (a : Nat) (y : Int) (b : Nat) (ha : a ≤ s.size) : intP s a = some (y, b) ↔ (-9223372036854775808 ≤ y ∧ y ≤ 9223372036854775807) ∧ b = a + (numB (zig y).toNat).size ∧ AtB s a (numB (zig y).toNat) := by
  unfold intP
  rw [Option.bind_eq_some_iff]
  constructor
  · rintro ⟨⟨N, c⟩, h1, h2⟩
    obtain ⟨g1, g2, g3⟩ := (uP_iff s a N c ha).1 h1
    simp only [Option.some.injEq, Prod.mk.injEq] at h2
    obtain ⟨rfl, rfl⟩ := h2
    rw [zig_zag, Int.toNat_natCast]
    exact ⟨zag_range N g1, g2, g3⟩
  · rintro ⟨h1, h2, h3⟩
    have hz := zig_bound h1.1 h1.2
    exact ⟨((zig y).toNat, b), (uP_iff s a _ b ha).2 ⟨by omega, h2, h3⟩, by simp [zag_zig]⟩
theorem Int_both (s : ByteArray) (hs : s.size ≤ 140737488351232) (a : Nat) (ha : a ≤ s.size) :
    (∃ y b, intP s a = some (y, b) ∧ b ≤ s.size ∧ V.scan_Scan_Int (s, (a : Int), 0, true) = some (y, s, (b : Int), 0, true)) ∨
    (intP s a = none ∧ ∃ e : Int, e ≠ 0 ∧ V.scan_Scan_Int (s, (a : Int), 0, true) = some (0, s, (a : Int), e, true)) := by
  have hx := extract_size s a s.size
  have G : ∀ {r}, F.varint_GetInt.B V.varint_Get V.varint_Zag (s.extract a s.size) = some r → V.varint_GetInt (s.extract a s.size) = some r := V.varint_GetInt.of _
  unfold F.varint_GetInt.B at G
  rw [Get_ok _ (by omega), Option.bind_some] at G
  have B : ∀ {r}, F.scan_Scan_Int.B V.scan_Scan_Err V.varint_GetInt V.scan_Scan_fail (s, (a : Int), 0, true) = some r → V.scan_Scan_Int (s, (a : Int), 0, true) = some r := V.scan_Scan_Int.of _
  unfold F.scan_Scan_Int.B at B
  dsimp only at B
  rw [Err_ok, Option.bind_some] at B
  dsimp only at B
  rw [guard_of (by simp; omega), nat_cast, nat_cast] at B
  simp only [bne_self_eq_false, cond_false] at B
  unfold intP
  rcases uP_get s a hs with ⟨N, m, hN, hg, hu⟩ | ⟨hg, hu⟩
  · have hb := (uP_le s a N (a + m) ha hu).2
    left
    rw [hg] at G
    refine ⟨zag N, a + m, by rw [hu]; rfl, hb, B ?_⟩
    rw [G (r := (zag N, (m : Int), true)) (by dsimp only; rw [Zag_ok N hN, Option.bind_some]), Option.bind_some]
    dsimp only
    rw [w64_id (by omega) (by omega)]
    rfl
  · right
    rw [hg] at G
    refine ⟨by rw [hu]; rfl, 3, by omega, B ?_⟩
    have hz : V.varint_Zag 0 = some (zag 0) := Zag_ok 0 (by omega)
    rw [G (r := (zag 0, 0, false)) (by dsimp only; rw [hz, Option.bind_some]), Option.bind_some]
    dsimp only
    rw [fail_ok, Option.bind_some]
    rfl
/-- The value whose bytes stand at a place, and the place behind it. -/
def valueP (s : ByteArray) (a : Nat) : Option (TValue × Nat) :=
  if a < s.size then
    if byteAt s (a : Int) = 1 then
      if a + 1 < s.size then (if valueB (1, byteAt s ((a + 1 : Nat) : Int), ⟨#[]⟩) = true then some ((1, byteAt s ((a + 1 : Nat) : Int), ⟨#[]⟩), a + 2) else none) else none
    else if byteAt s (a : Int) = 2 then (intP s (a + 1)).bind fun x => some ((2, x.1, ⟨#[]⟩), x.2)
    else if byteAt s (a : Int) = 3 then (textP 64 s (a + 1)).bind fun x => some ((3, 0, x.1), x.2)
    else none
  else none
theorem Fail_ok (s : ByteArray) (p : Int) : V.scan_Scan_Fail (s, p, 0, true) 3 = some (s, p, 3, true) := by
  refine V.scan_Scan_Fail.of _ _ ?_
  unfold F.scan_Scan_Fail.B
  dsimp only
  rw [fail_ok, Option.bind_some]
  rfl
/-- What value.Read does with what it has read. -/
theorem Read_end (s : ByteArray) (p e : Int) (v : TValue) : ((V.scan_Scan_Err (s, p, e, true)).bind fun t => (bif (t.1 != 0) then (some (((0, 0, (⟨#[]⟩ : ByteArray)) : TValue), t.2.1, t.2.2.1, t.2.2.2.1, t.2.2.2.2)) else ((V.value_Check v).bind fun u => (bif (u != 0) then ((V.scan_Scan_Fail (t.2.1, t.2.2.1, t.2.2.2.1, t.2.2.2.2) 3).bind fun z => (some ((0, 0, (⟨#[]⟩ : ByteArray)), z.1, z.2.1, z.2.2.1, z.2.2.2))) else (some (v, t.2.1, t.2.2.1, t.2.2.2.1, t.2.2.2.2)))))) =
    if e = 0 then (if valueB v = true then some (v, s, p, 0, true) else some ((0, 0, ⟨#[]⟩), s, p, 3, true)) else some ((0, 0, ⟨#[]⟩), s, p, e, true) := by
  rw [Err_ok, Option.bind_some]
  dsimp only
  by_cases h : e = 0
  · subst h
    rw [value_Check_ok, Option.bind_some, Fail_ok]
    cases valueB v <;> simp
  · simp [Bool.cond_eq_ite, h]
theorem Read_err (s : ByteArray) (p e : Int) (he : e ≠ 0) : V.value_Read (s, p, e, true) = some ((0, 0, ⟨#[]⟩), s, p, e, true) := by
  refine V.value_Read.of _ ?_
  unfold F.value_Read.B
  dsimp only
  rw [Byte_err s p e he, Option.bind_some]
  dsimp only
  simp only [Int.reduceBEq, cond_false]
  exact (Read_end s p e _).trans (by rw [if_neg he])
theorem Read_both (s : ByteArray) (hs : s.size ≤ 140737488351232) (a : Nat) (ha : a ≤ s.size) :
    (∃ v b, valueP s a = some (v, b) ∧ b ≤ s.size ∧ V.value_Read (s, (a : Int), 0, true) = some (v, s, (b : Int), 0, true)) ∨
    (valueP s a = none ∧ ∃ p e : Int, e ≠ 0 ∧ V.value_Read (s, (a : Int), 0, true) = some ((0, 0, ⟨#[]⟩), s, p, e, true)) := by
  have B : ∀ {r}, F.value_Read.B V.scan_Scan_Byte V.scan_Scan_Err V.value_Check V.scan_Scan_Fail V.scan_Scan_Int V.scan_Scan_Text (s, (a : Int), 0, true) = some r → V.value_Read (s, (a : Int), 0, true) = some r := V.value_Read.of _
  unfold F.value_Read.B at B
  dsimp only at B
  unfold valueP
  rcases Byte_both s hs a ha with ⟨h1, h2⟩ | ⟨h1, h2⟩
  · rw [if_pos h1]
    rw [h2, Option.bind_some] at B
    dsimp only at B
    by_cases c1 : byteAt s (a : Int) = 1
    · rw [if_pos c1]
      rw [c1] at B
      simp only [Int.reduceBEq, cond_true] at B
      rcases Byte_both s hs (a + 1) (by omega) with ⟨g1, g2⟩ | ⟨g1, g2⟩
      · rw [if_pos g1]
        rw [g2, Option.bind_some] at B
        dsimp only at B
        have E := Read_end s ((a + 1 + 1 : Nat) : Int) 0 (1, byteAt s ((a + 1 : Nat) : Int), ⟨#[]⟩)
        rw [if_pos rfl] at E
        by_cases hv : valueB (1, byteAt s ((a + 1 : Nat) : Int), ⟨#[]⟩) = true
        · left; exact ⟨_, a + 2, by rw [if_pos hv], by omega, B (E.trans (by rw [if_pos hv]))⟩
        · right; exact ⟨by rw [if_neg hv], _, 3, by omega, B (E.trans (by rw [if_neg hv]))⟩
      · right
        rw [if_neg g1]
        rw [g2, Option.bind_some] at B
        dsimp only at B
        exact ⟨by first | rfl | trivial, _, 3, by omega, B ((Read_end s _ 3 _).trans (by rw [if_neg (by omega)]))⟩
    · rw [if_neg c1]
      rw [show (byteAt s (a : Int) == 1) = false by simp [c1], cond_false] at B
      by_cases c2 : byteAt s (a : Int) = 2
      · rw [if_pos c2]
        rw [c2] at B
        simp only [Int.reduceBEq, cond_true] at B
        rcases Int_both s hs (a + 1) (by omega) with ⟨y, b, g1, g2, g3⟩ | ⟨g1, e, he, g3⟩
        · left
          rw [g3, Option.bind_some] at B
          dsimp only at B
          rw [g1, Option.bind_some]
          exact ⟨(2, y, ⟨#[]⟩), b, rfl, g2, B ((Read_end s _ 0 _).trans (by rw [if_pos rfl, if_pos (by simp [valueB, ByteArray.size])]))⟩
        · right
          rw [g3, Option.bind_some] at B
          dsimp only at B
          rw [g1]
          exact ⟨by first | rfl | trivial, _, e, he, B ((Read_end s _ e _).trans (by rw [if_neg he]))⟩
      · rw [if_neg c2]
        rw [show (byteAt s (a : Int) == 2) = false by simp [c2], cond_false] at B
        by_cases c3 : byteAt s (a : Int) = 3
        · rw [if_pos c3]
          rw [c3] at B
          simp only [Int.reduceBEq, cond_true] at B
          rcases Text_both s hs (a + 1) (by omega) 64 (by omega) with ⟨t, b, g1, g2, g3, g4⟩ | ⟨g1, p, e, he, g3⟩
          · left
            rw [show (64 : Int) = ((64 : Nat) : Int) from rfl, g4, Option.bind_some] at B
            dsimp only at B
            rw [g1, Option.bind_some]
            exact ⟨(3, 0, t), b, rfl, g2, B ((Read_end s _ 0 _).trans (by rw [if_pos rfl, if_pos (by simp [valueB, g3])]))⟩
          · right
            rw [show (64 : Int) = ((64 : Nat) : Int) from rfl, g3, Option.bind_some] at B
            dsimp only at B
            rw [g1]
            exact ⟨by first | rfl | trivial, _, e, he, B ((Read_end s _ e _).trans (by rw [if_neg he]))⟩
        · rw [if_neg c3]
          rw [show (byteAt s (a : Int) == 3) = false by simp [c3], cond_false] at B
          right
          refine ⟨by first | rfl | trivial, ((a + 1 : Nat) : Int), 3, by omega, B ((Read_end s _ 0 _).trans ?_)⟩
          rw [if_pos rfl, if_neg (by simp [valueB, c1, c2, c3])]
  · right
    rw [if_neg h1]
    rw [h2, Option.bind_some] at B
    dsimp only at B
    simp only [Int.reduceBEq, cond_false] at B
    exact ⟨by first | rfl | trivial, _, 3, by omega, B ((Read_end s _ 3 _).trans (by rw [if_neg (by omega)]))⟩
end Go.Proofs.Ytdblhdpnllckhaa.AE
end
section
set_option linter.unusedVariables false
set_option linter.unusedSimpArgs false
set_option maxRecDepth 4000
namespace Go.Proofs.Ytdblhdpnllckhaa.AE
open Go

theorem bne_ne {e : Int} (he : e ≠ 0) : (e != 0) = true := by simp [he]
end Go.Proofs.Ytdblhdpnllckhaa.AE
end
section
set_option linter.unusedVariables false
set_option linter.unusedSimpArgs false
set_option maxRecDepth 4000
namespace Go.Proofs.Ytdblhdpnllckhaa.AE
open Go

theorem at_one (s : ByteArray) (a : Nat) (c : Int) (hc : 0 ≤ c ∧ c < 256) : AtB s a (bytesOf [c]) ↔ a < s.size ∧ byteAt s (a : Int) = c := by
  have hz : (bytesOf [c]).size = 1 := strOfNums_size [c]
  unfold AtB
  rw [hz]
  constructor
  · rintro ⟨h1, h2⟩
    refine ⟨by omega, ?_⟩
    rw [← bt_extract s a (by omega), h2]
    have : byteAt (bytesOf [c]) 0 = c := by
      have := bt_data (bytesOf [c]) 0 (by omega)
      rw [show ((0 : Nat) : Int) = 0 from rfl] at this
      rw [this]
      simp [bytesOf, UInt8.toNat_ofNat']
      omega
    exact this
  · rintro ⟨h1, h2⟩
    refine ⟨by omega, ?_⟩
    have hx := bytesOf_bl (s.extract a (a + 1)) 1 (by rw [ByteArray.size_extract]; omega)
    have hb := bt_extract s a h1
    have e1 : bl (s.extract a (a + 1)) 1 0 = [c] := by
      show [byteAt (s.extract a (a + 1)) ((0 : Nat) : Int)] = [c]
      rw [show ((0 : Nat) : Int) = 0 from rfl, hb, h2]
    rw [e1] at hx
    rw [hx]
    apply ByteArray.ext
    apply Array.ext'
    rw [extract_toList, extract_toList, extract_toList, List.drop_zero, List.take_take]
    congr 1
    omega
theorem valueP_iff (s : ByteArray) (a : Nat) (x y : Int) (t : ByteArray) (b : Nat) (ha : a ≤ s.size) :
    valueP s a = some ((x, y, t), b) ↔ valueB (x, y, t) = true ∧ (-9223372036854775808 ≤ y ∧ y ≤ 9223372036854775807) ∧ b = a + (valB (x, y, t)).size ∧ AtB s a (valB (x, y, t)) := by
  have app : bytesOf [1, y] = bytesOf [1] ++ bytesOf [y] := by rw [← strOfNums_append]; rfl
  constructor
  · intro h
    unfold valueP at h
    split at h
    · rename_i h1
      split at h
      · rename_i c1
        split at h
        · rename_i h2
          split at h
          · rename_i hv
            simp only [Option.some.injEq, Prod.mk.injEq] at h
            obtain ⟨⟨rfl, rfl, rfl⟩, rfl⟩ := h
            have hr := bt_range s ((a + 1 : Nat) : Int)
            refine ⟨hv, by omega, ?_⟩
            have hB : valB (1, (byteAt s ((a + 1 : Nat) : Int)), ⟨#[]⟩) = bytesOf [1] ++ bytesOf [byteAt s ((a + 1 : Nat) : Int)] := by
              unfold valB; rw [if_pos hv, if_pos rfl, app]
            rw [hB, at_append, ByteArray.size_append, strOfNums_size, strOfNums_size]
            exact ⟨rfl, (at_one s a 1 (by omega)).2 ⟨h1, c1⟩, (at_one s (a + 1) _ (by omega)).2 ⟨h2, rfl⟩⟩
          · cases h
        · cases h
      · rename_i c1
        split at h
        · rename_i c2
          obtain ⟨⟨z, c⟩, g1, g2⟩ := Option.bind_eq_some_iff.1 h
          simp only [Option.some.injEq, Prod.mk.injEq] at g2
          obtain ⟨⟨rfl, rfl, rfl⟩, rfl⟩ := g2
          obtain ⟨k1, k2, k3⟩ := (intP_iff s (a + 1) z c (by omega)).1 g1
          have hv : valueB (2, z, ⟨#[]⟩) = true := by simp [valueB, ByteArray.size]
          have hB : valB (2, z, ⟨#[]⟩) = bytesOf [2] ++ numB (zig z).toNat := by unfold valB; rw [if_pos hv, if_neg (by omega), if_pos rfl]
          refine ⟨hv, k1, ?_⟩
          rw [hB, at_append, ByteArray.size_append, strOfNums_size]
          exact ⟨by simp; omega, (at_one s a 2 (by omega)).2 ⟨h1, c2⟩, k3⟩
        · rename_i c2
          split at h
          · rename_i c3
            obtain ⟨⟨z, c⟩, g1, g2⟩ := Option.bind_eq_some_iff.1 h
            simp only [Option.some.injEq, Prod.mk.injEq] at g2
            obtain ⟨⟨rfl, rfl, rfl⟩, rfl⟩ := g2
            obtain ⟨k1, k2, k3⟩ := (textP_iff 64 (by omega) s (a + 1) z c (by omega)).1 g1
            have hv : valueB (3, 0, z) = true := by simp [valueB, k1]
            have hB : valB (3, 0, z) = bytesOf [3] ++ textB z := by unfold valB; rw [if_pos hv, if_neg (by omega), if_neg (by omega)]
            refine ⟨hv, by omega, ?_⟩
            rw [hB, at_append, ByteArray.size_append, strOfNums_size]
            exact ⟨by simp; omega, (at_one s a 3 (by omega)).2 ⟨h1, c3⟩, k3⟩
          · cases h
    · cases h
  · rintro ⟨hv, hy, rfl, hA⟩
    unfold valB at hA ⊢
    rw [if_pos hv] at hA ⊢
    have hv' := hv
    unfold valueB at hv'
    by_cases c1 : x = 1
    · subst c1
      simp at hv'
      have ht : t = ⟨#[]⟩ := hv'.2.trans rfl
      subst ht
      rw [if_pos rfl, app] at hA
      rw [if_pos rfl]
      obtain ⟨h1, h2⟩ := (at_append _ _ _ _).1 hA
      rw [strOfNums_size] at h2
      obtain ⟨g1, g2⟩ := (at_one s a 1 (by omega)).1 h1
      obtain ⟨k1, k2⟩ := (at_one s (a + 1) y (by omega)).1 h2
      unfold valueP
      rw [if_pos g1, if_pos g2, if_pos k1, k2, if_pos hv, strOfNums_size]
      rfl
    · by_cases c2 : x = 2
      · subst c2
        simp at hv'
        have ht : t = ⟨#[]⟩ := hv'.trans rfl
        subst ht
        rw [if_neg (by omega), if_pos rfl] at hA
        rw [if_neg (by omega), if_pos rfl]
        obtain ⟨h1, h2⟩ := (at_append _ _ _ _).1 hA
        rw [strOfNums_size] at h2
        obtain ⟨g1, g2⟩ := (at_one s a 2 (by omega)).1 h1
        have := (intP_iff s (a + 1) y (a + 1 + (numB (zig y).toNat).size) (by omega)).2 ⟨hy, rfl, h2⟩
        unfold valueP
        rw [if_pos g1, if_neg (by omega), if_pos g2, this, Option.bind_some, ByteArray.size_append, strOfNums_size]
        simp only [List.length_cons, List.length_nil]
        congr 2
        omega
      · have c3 : x = 3 := by simp [c1, c2] at hv'; exact hv'.1.1
        subst c3
        have hy0 : y = 0 := by simp [c1, c2] at hv'; exact hv'.1
        subst hy0
        have h64 : t.size ≤ 64 := by simp [c1, c2] at hv'; exact hv'
        rw [if_neg (by omega), if_neg (by omega)] at hA
        rw [if_neg (by omega), if_neg (by omega)]
        obtain ⟨h1, h2⟩ := (at_append _ _ _ _).1 hA
        rw [strOfNums_size] at h2
        obtain ⟨g1, g2⟩ := (at_one s a 3 (by omega)).1 h1
        have := (textP_iff 64 (by omega) s (a + 1) t (a + 1 + (textB t).size) (by omega)).2 ⟨h64, rfl, h2⟩
        unfold valueP
        rw [if_pos g1, if_neg (by omega), if_neg (by omega), if_pos g2, this, Option.bind_some, ByteArray.size_append, strOfNums_size]
        simp only [List.length_cons, List.length_nil]
        congr 2
        omega
/-! rows of texts, of properties -/
def textsP (most : Nat) (s : ByteArray) : Nat → Nat → Option (List ByteArray × Nat)
  | 0, a => some ([], a)
  | d + 1, a => (textP most s a).bind fun x => (textsP most s d x.2).bind fun r => some (x.1 :: r.1, r.2)
def propP (most : Nat) (s : ByteArray) (a : Nat) : Option (TProp × Nat) := (textP most s a).bind fun x => (valueP s x.2).bind fun v => some ((⟨x.1, ⟨v.1.1, v.1.2.1, v.1.2.2⟩⟩ : TProp), v.2)
def propsP (most : Nat) (s : ByteArray) : Nat → Nat → Option (List TProp × Nat)
  | 0, a => some ([], a)
  | d + 1, a => (propP most s a).bind fun x => (propsP most s d x.2).bind fun r => some (x.1 :: r.1, r.2)
def catL : List ByteArray → ByteArray
  | [] => ⟨#[]⟩
  | t :: r => textB t ++ catL r
def catQ : List TProp → ByteArray
  | [] => ⟨#[]⟩
  | p :: r => propB p ++ catQ r
theorem catT_eq (l : List ByteArray) : ∀ d i, i + d = l.length → catT l d i = catL (l.drop i)
  | 0, i, h => by rw [List.drop_eq_nil_of_le (by omega)]; rfl
  | d + 1, i, h => by
    have hi : i < l.length := by omega
    have e : rd .str l i = l[i] := rd_get (e := .str) hi
    rw [List.drop_eq_getElem_cons hi, catT, catT_eq l d (i + 1) (by omega), e]
    rfl
theorem catP_eq (l : List TProp) : ∀ d i, i + d = l.length → catP l d i = catQ (l.drop i)
  | 0, i, h => by rw [List.drop_eq_nil_of_le (by omega)]; rfl
  | d + 1, i, h => by
    have hi : i < l.length := by omega
    have e : rd sProp l i = l[i] := rd_get (e := sProp) hi
    rw [List.drop_eq_getElem_cons hi, catP, catP_eq l d (i + 1) (by omega), e]
    rfl
theorem putB_eq (a : List ByteArray) (l : List TProp) : putB a l = numB a.length ++ (catL a ++ (numB l.length ++ catQ l)) := by
  unfold putB
  rw [catT_eq a a.length 0 (by omega), catP_eq l l.length 0 (by omega), List.drop_zero, List.drop_zero]
theorem textsP_iff (most : Nat) (hm : most < 18446744073709551616) (s : ByteArray) : ∀ (d a : Nat) (l : List ByteArray) (b : Nat), a ≤ s.size → (textsP most s d a = some (l, b) ↔ l.length = d ∧ (∀ t ∈ l, t.size ≤ most) ∧ b = a + (catL l).size ∧ AtB s a (catL l))
  | 0, a, l, b, ha => by
    unfold textsP
    constructor
    · intro h
      simp only [Option.some.injEq, Prod.mk.injEq] at h
      obtain ⟨rfl, rfl⟩ := h
      exact ⟨rfl, by simp, by simp [catL, ByteArray.size], at_nil s a ha⟩
    · rintro ⟨h1, _, h3, _⟩
      have : l = [] := List.eq_nil_of_length_eq_zero h1
      subst this
      simp [catL, ByteArray.size] at h3
      rw [h3]
  | d + 1, a, l, b, ha => by
    unfold textsP
    rw [Option.bind_eq_some_iff]
    constructor
    · rintro ⟨⟨t, c⟩, h1, h2⟩
      obtain ⟨⟨r, e⟩, h3, h4⟩ := Option.bind_eq_some_iff.1 h2
      simp only [Option.some.injEq, Prod.mk.injEq] at h4
      obtain ⟨rfl, rfl⟩ := h4
      obtain ⟨g1, g2, g3⟩ := (textP_iff most hm s a t c ha).1 h1
      have hc : c ≤ s.size := by have := g3.1; omega
      obtain ⟨k1, k2, k3, k4⟩ := (textsP_iff most hm s d c r e hc).1 h3
      refine ⟨by simp [k1], ?_, ?_, ?_⟩
      · intro z hz
        rcases List.mem_cons.1 hz with rfl | hz
        · exact g1
        · exact k2 z hz
      · rw [catL, ByteArray.size_append]; omega
      · rw [catL, at_append, ← g2]; exact ⟨g3, k4⟩
    · rintro ⟨h1, h2, h3, h4⟩
      match l, h1 with
      | t :: r, h1 =>
        rw [catL, at_append] at h4
        rw [catL, ByteArray.size_append] at h3
        have hle := h4.1.1
        refine ⟨(t, a + (textB t).size), (textP_iff most hm s a t _ ha).2 ⟨h2 t (by simp), rfl, h4.1⟩, ?_⟩
        refine Option.bind_eq_some_iff.2 ⟨(r, b), (textsP_iff most hm s d _ r b (by omega)).2 ⟨by simpa using h1, fun z hz => h2 z (by simp [hz]), by simp only; omega, h4.2⟩, rfl⟩
/-- A property whose value may be, with a key of at most so many bytes. -/
def propOk (most : Nat) (p : TProp) : Prop := p.1.size ≤ most ∧ valueB p.2 = true ∧ (-9223372036854775808 ≤ p.2.2.1 ∧ p.2.2.1 ≤ 9223372036854775807)
theorem propP_iff (most : Nat) (hm : most < 18446744073709551616) (s : ByteArray) (a : Nat) (p : TProp) (b : Nat) (ha : a ≤ s.size) : propP most s a = some (p, b) ↔ propOk most p ∧ b = a + (propB p).size ∧ AtB s a (propB p) := by
  unfold propP propOk propB
  rw [Option.bind_eq_some_iff, at_append, ByteArray.size_append]
  constructor
  · rintro ⟨⟨t, c⟩, h1, h2⟩
    obtain ⟨⟨⟨x, y, z⟩, e⟩, h3, h4⟩ := Option.bind_eq_some_iff.1 h2
    simp only [Option.some.injEq, Prod.mk.injEq] at h4
    obtain ⟨rfl, rfl⟩ := h4
    obtain ⟨g1, g2, g3⟩ := (textP_iff most hm s a t c ha).1 h1
    have hc : c ≤ s.size := by have := g3.1; omega
    obtain ⟨k1, k2, k3, k4⟩ := (valueP_iff s c x y z e hc).1 h3
    subst g2
    exact ⟨⟨g1, k1, k2⟩, by simp only; omega, g3, k4⟩
  · rintro ⟨⟨h1, h2, h3⟩, h4, h5, h6⟩
    have hle := h5.1
    obtain ⟨t, ⟨x, y, z⟩⟩ := p
    exact ⟨(t, a + (textB t).size), (textP_iff most hm s a t _ ha).2 ⟨h1, rfl, h5⟩, Option.bind_eq_some_iff.2 ⟨((x, y, z), b), (valueP_iff s _ x y z b (by simpa using hle)).2 ⟨h2, h3, by simp only at h4 ⊢; omega, h6⟩, rfl⟩⟩
theorem propsP_iff (most : Nat) (hm : most < 18446744073709551616) (s : ByteArray) : ∀ (d a : Nat) (l : List TProp) (b : Nat), a ≤ s.size → (propsP most s d a = some (l, b) ↔ l.length = d ∧ (∀ p ∈ l, propOk most p) ∧ b = a + (catQ l).size ∧ AtB s a (catQ l))
  | 0, a, l, b, ha => by
    unfold propsP
    constructor
    · intro h
      simp only [Option.some.injEq, Prod.mk.injEq] at h
      obtain ⟨rfl, rfl⟩ := h
      exact ⟨rfl, by simp, by simp [catQ, ByteArray.size], at_nil s a ha⟩
    · rintro ⟨h1, _, h3, _⟩
      have : l = [] := List.eq_nil_of_length_eq_zero h1
      subst this
      simp [catQ, ByteArray.size] at h3
      rw [h3]
  | d + 1, a, l, b, ha => by
    unfold propsP
    rw [Option.bind_eq_some_iff]
    constructor
    · rintro ⟨⟨p, c⟩, h1, h2⟩
      obtain ⟨⟨r, e⟩, h3, h4⟩ := Option.bind_eq_some_iff.1 h2
      simp only [Option.some.injEq, Prod.mk.injEq] at h4
      obtain ⟨rfl, rfl⟩ := h4
      obtain ⟨g1, g2, g3⟩ := (propP_iff most hm s a p c ha).1 h1
      have hc : c ≤ s.size := by have := g3.1; omega
      obtain ⟨k1, k2, k3, k4⟩ := (propsP_iff most hm s d c r e hc).1 h3
      refine ⟨by simp [k1], ?_, ?_, ?_⟩
      · intro z hz
        rcases List.mem_cons.1 hz with rfl | hz
        · exact g1
        · exact k2 z hz
      · rw [catQ, ByteArray.size_append]; omega
      · rw [catQ, at_append, ← g2]; exact ⟨g3, k4⟩
    · rintro ⟨h1, h2, h3, h4⟩
      match l, h1 with
      | p :: r, h1 =>
        rw [catQ, at_append] at h4
        rw [catQ, ByteArray.size_append] at h3
        have hle := h4.1.1
        refine ⟨(p, a + (propB p).size), (propP_iff most hm s a p _ ha).2 ⟨h2 p (by simp), rfl, h4.1⟩, ?_⟩
        refine Option.bind_eq_some_iff.2 ⟨(r, b), (propsP_iff most hm s d _ r b (by omega)).2 ⟨by simpa using h1, fun z hz => h2 z (by simp [hz]), by simp only; omega, h4.2⟩, rfl⟩
/-- Labels and properties whose bytes stand at a place. -/
def readP (most : Nat) (s : ByteArray) (a : Nat) : Option ((List ByteArray × List TProp) × Nat) :=
  (numP 8 s a).bind fun n => (textsP most s n.1 n.2).bind fun t => (numP 8 s t.2).bind fun m => (propsP most s m.1 m.2).bind fun p => some ((t.1, p.1), p.2)
structure Fine (most : Nat) (a : List ByteArray) (l : List TProp) : Prop where
  na : a.length ≤ 8
  nl : l.length ≤ 8
  ta : ∀ t ∈ a, t.size ≤ most
  tl : ∀ p ∈ l, propOk most p
theorem readP_iff (most : Nat) (hm : most < 18446744073709551616) (s : ByteArray) (a : Nat) (x : List ByteArray) (y : List TProp) (b : Nat) (ha : a ≤ s.size) :
    readP most s a = some ((x, y), b) ↔ Fine most x y ∧ b = a + (putB x y).size ∧ AtB s a (putB x y) := by
  unfold readP
  rw [putB_eq, at_append, at_append, at_append, ByteArray.size_append, ByteArray.size_append, ByteArray.size_append, Option.bind_eq_some_iff]
  constructor
  · rintro ⟨⟨n, c⟩, h1, h2⟩
    obtain ⟨⟨t, e⟩, h3, h4⟩ := Option.bind_eq_some_iff.1 h2
    obtain ⟨⟨m, f⟩, h5, h6⟩ := Option.bind_eq_some_iff.1 h4
    obtain ⟨⟨p, g⟩, h7, h8⟩ := Option.bind_eq_some_iff.1 h6
    simp only [Option.some.injEq, Prod.mk.injEq] at h8
    obtain ⟨⟨rfl, rfl⟩, rfl⟩ := h8
    obtain ⟨a1, a2, a3⟩ := (numP_iff 8 (by omega) s a n c ha).1 h1
    have hc : c ≤ s.size := by have := a3.1; omega
    obtain ⟨b1, b2, b3, b4⟩ := (textsP_iff most hm s n c t e hc).1 h3
    have he : e ≤ s.size := by have := b4.1; omega
    obtain ⟨c1, c2, c3⟩ := (numP_iff 8 (by omega) s e m f he).1 h5
    have hf : f ≤ s.size := by have := c3.1; omega
    obtain ⟨d1, d2, d3, d4⟩ := (propsP_iff most hm s m f p g hf).1 h7
    subst b1 d1
    subst a2
    subst b3
    subst c2
    exact ⟨⟨a1, c1, b2, d2⟩, by omega, a3, b4, c3, d4⟩
  · rintro ⟨hF, hb, h1, h2, h3, h4⟩
    have g1 := h1.1
    have g2 := h2.1
    have g3 := h3.1
    refine ⟨(x.length, _), (numP_iff 8 (by omega) s a _ _ ha).2 ⟨hF.na, rfl, h1⟩, Option.bind_eq_some_iff.2 ⟨(x, _), (textsP_iff most hm s _ _ x _ (by simpa using g1)).2 ⟨rfl, hF.ta, rfl, h2⟩, Option.bind_eq_some_iff.2 ⟨(y.length, _), (numP_iff 8 (by omega) s _ _ _ (by simpa using g2)).2 ⟨hF.nl, rfl, h3⟩, Option.bind_eq_some_iff.2 ⟨(y, b), (propsP_iff most hm s _ _ y b (by simpa using g3)).2 ⟨rfl, hF.tl, by simp only; omega, h4⟩, rfl⟩⟩⟩⟩
end Go.Proofs.Ytdblhdpnllckhaa.AE
end
section
set_option linter.unusedVariables false
set_option linter.unusedSimpArgs false
set_option maxRecDepth 4000
namespace Go.Proofs.Ytdblhdpnllckhaa.AE
open Go

/-- What is read behind the labels that are there already. -/
def tailP (most : Nat) (s : ByteArray) (x : List ByteArray) (d a : Nat) : Option ((List ByteArray × List TProp) × Nat) :=
  (textsP most s d a).bind fun t => (numP 8 s t.2).bind fun m => (propsP most s m.1 m.2).bind fun p => some ((x ++ t.1, p.1), p.2)
theorem tailP_succ (most : Nat) (s : ByteArray) (x : List ByteArray) (d a : Nat) : tailP most s x (d + 1) a = (textP most s a).bind fun t => tailP most s (x ++ [t.1]) d t.2 := by
  unfold tailP
  rw [textsP]
  cases textP most s a with
  | none => rfl
  | some t =>
    rw [Option.bind_some, Option.bind_some]
    cases textsP most s d t.2 with
    | none => rfl
    | some r =>
      rw [Option.bind_some, Option.bind_some, Option.bind_some]
      simp
theorem read_l1_err (A : TScan) (s : ByteArray) (x : List ByteArray) (m : Nat) (hm : m ≤ 8) (p e : Int) (he : e ≠ 0) : ∀ (d i : Nat) (y : List TProp), i + d = m → y.length = i →
    ∃ y', V.elem_read.l11010 A (m : Int) (i : Int) s p e true x y = some (x, y', s, p, e, true)
  | 0, i, y, hi, hy => by
    have B := fun {r} => V.elem_read.l11010.of A (m : Int) (i : Int) s p e true x y (r := r)
    unfold F.elem_read.l11010.B at B
    rw [if_out (by omega)] at B
    exact ⟨y, B rfl⟩
  | d + 1, i, y, hi, hy => by
    have B := fun {r} => V.elem_read.l11010.of A (m : Int) (i : Int) s p e true x y (r := r)
    unfold F.elem_read.l11010.B at B
    rw [if_in (by omega), Text_err s p e he, Option.bind_some] at B
    dsimp only at B
    rw [Read_err s p e he, Option.bind_some] at B
    dsimp only at B
    rw [guard_dec (by simp [nmax]; omega), w64_up (show i < m by omega) (by omega)] at B
    obtain ⟨y', h⟩ := read_l1_err A s x m hm p e he d (i + 1) (y ++ [(⟨#[]⟩, 0, 0, ⟨#[]⟩)]) (by omega) (by simp [hy])
    exact ⟨y', B h⟩
theorem read_l0_err (A : TScan) (s : ByteArray) (n : Nat) (hn : n ≤ 8) (p e : Int) (he : e ≠ 0) : ∀ (d i : Nat) (x : List ByteArray), i + d = n → x.length = i →
    ∃ x' y', V.elem_read.l1010 A (n : Int) (i : Int) s p e true x = some (x', y', s, p, e, true)
  | 0, i, x, hi, hx => by
    have B := fun {r} => V.elem_read.l1010.of A (n : Int) (i : Int) s p e true x (r := r)
    unfold F.elem_read.l1010.B at B
    rw [if_out (by omega), Num_err s p e he, Option.bind_some] at B
    dsimp only at B
    obtain ⟨y', h⟩ := read_l1_err A s x 0 (by omega) p e he 0 0 [] rfl rfl
    exact ⟨x, y', B h⟩
  | d + 1, i, x, hi, hx => by
    have B := fun {r} => V.elem_read.l1010.of A (n : Int) (i : Int) s p e true x (r := r)
    unfold F.elem_read.l1010.B at B
    rw [if_in (by omega), Text_err s p e he, Option.bind_some] at B
    dsimp only at B
    rw [guard_dec (by simp [nmax]; omega), w64_up (show i < n by omega) (by omega)] at B
    obtain ⟨x', y', h⟩ := read_l0_err A s n hn p e he d (i + 1) (x ++ [⟨#[]⟩]) (by omega) (by simp [hx])
    exact ⟨x', y', B h⟩
theorem read_l1 (A : TScan) (s : ByteArray) (hs : s.size ≤ 140737488351232) (x : List ByteArray) (m : Nat) (hm : m ≤ 8) : ∀ (d i a : Nat) (y : List TProp), i + d = m → y.length = i → a ≤ s.size →
    (∃ r b, propsP 12 s d a = some (r, b) ∧ b ≤ s.size ∧ V.elem_read.l11010 A (m : Int) (i : Int) s (a : Int) 0 true x y = some (x, (y ++ r), s, (b : Int), 0, true)) ∨
    (propsP 12 s d a = none ∧ ∃ (y' : List TProp) (p e : Int), e ≠ 0 ∧ V.elem_read.l11010 A (m : Int) (i : Int) s (a : Int) 0 true x y = some (x, y', s, p, e, true))
  | 0, i, a, y, hi, hy, ha => by
    have B := fun {r} => V.elem_read.l11010.of A (m : Int) (i : Int) s (a : Int) 0 true x y (r := r)
    unfold F.elem_read.l11010.B at B
    rw [if_out (by omega)] at B
    exact Or.inl ⟨[], a, rfl, ha, by rw [List.append_nil]; exact B rfl⟩
  | d + 1, i, a, y, hi, hy, ha => by
    have B := fun {r} => V.elem_read.l11010.of A (m : Int) (i : Int) s (a : Int) 0 true x y (r := r)
    unfold F.elem_read.l11010.B at B
    rw [if_in (by omega), show (12 : Int) = ((12 : Nat) : Int) from rfl] at B
    rw [propsP, propP]
    rcases Text_both s hs a ha 12 (by omega) with ⟨t, c, h1, hc, h2, h3⟩ | ⟨h1, p, e, he, h3⟩
    · rw [h3, Option.bind_some] at B
      rw [h1, Option.bind_some]
      dsimp only at B ⊢
      rcases Read_both s hs c hc with ⟨v, b, g1, g2, g3⟩ | ⟨g1, p, e, he, g3⟩
      · rw [g3, Option.bind_some] at B
        rw [g1, Option.bind_some, Option.bind_some]
        dsimp only at B ⊢
        rw [guard_dec (by simp [nmax]; omega), w64_up (show i < m by omega) (by omega)] at B
        rcases read_l1 A s hs x m hm d (i + 1) b (y ++ [(t, v.1, v.2.1, v.2.2)]) (by omega) (by simp [hy]) g2 with ⟨r, b', f1, f2, f3⟩ | ⟨f1, y', p, e, he, f3⟩
        · left
          refine ⟨(t, v) :: r, b', ?_, f2, ?_⟩
          · rw [f1]; rfl
          · exact (B f3).trans (by simp)
        · right
          exact ⟨by rw [f1]; rfl, y', p, e, he, B f3⟩
      · rw [g3, Option.bind_some] at B
        rw [g1]
        dsimp only at B ⊢
        rw [guard_dec (by simp [nmax]; omega), w64_up (show i < m by omega) (by omega)] at B
        obtain ⟨y', h⟩ := read_l1_err A s x m hm p e he d (i + 1) (y ++ [(t, 0, 0, ⟨#[]⟩)]) (by omega) (by simp [hy])
        exact Or.inr ⟨rfl, y', p, e, he, B h⟩
    · rw [h3, Option.bind_some] at B
      rw [h1]
      dsimp only at B ⊢
      rw [Read_err s p e he, Option.bind_some] at B
      dsimp only at B
      rw [guard_dec (by simp [nmax]; omega), w64_up (show i < m by omega) (by omega)] at B
      obtain ⟨y', h⟩ := read_l1_err A s x m hm p e he d (i + 1) (y ++ [(⟨#[]⟩, 0, 0, ⟨#[]⟩)]) (by omega) (by simp [hy])
      exact Or.inr ⟨rfl, y', p, e, he, B h⟩
theorem read_l0 (A : TScan) (s : ByteArray) (hs : s.size ≤ 140737488351232) (n : Nat) (hn : n ≤ 8) : ∀ (d i a : Nat) (x : List ByteArray), i + d = n → x.length = i → a ≤ s.size →
    (∃ u v b, tailP 12 s x d a = some ((u, v), b) ∧ b ≤ s.size ∧ V.elem_read.l1010 A (n : Int) (i : Int) s (a : Int) 0 true x = some (u, v, s, (b : Int), 0, true)) ∨
    (tailP 12 s x d a = none ∧ ∃ (u : List ByteArray) (v : List TProp) (p e : Int), e ≠ 0 ∧ V.elem_read.l1010 A (n : Int) (i : Int) s (a : Int) 0 true x = some (u, v, s, p, e, true))
  | 0, i, a, x, hi, hx, ha => by
    have B := fun {r} => V.elem_read.l1010.of A (n : Int) (i : Int) s (a : Int) 0 true x (r := r)
    unfold F.elem_read.l1010.B at B
    rw [if_out (by omega), show (8 : Int) = ((8 : Nat) : Int) from rfl] at B
    unfold tailP textsP
    rw [Option.bind_some]
    rcases Num_both s hs a ha 8 (by omega) with ⟨m, c, h1, h2⟩ | ⟨h1, e, he, h2⟩
    · obtain ⟨hm, hc⟩ := numP_le ha h1
      rw [h2, Option.bind_some] at B
      rw [h1, Option.bind_some]
      dsimp only at B ⊢
      rcases read_l1 A s hs x m hm m 0 c [] (by omega) rfl hc with ⟨r, b, f1, f2, f3⟩ | ⟨f1, y', p, e, he, f3⟩
      · left
        refine ⟨x, r, b, ?_, f2, ?_⟩
        · rw [f1]; simp
        · exact B f3
      · right
        exact ⟨by rw [f1]; rfl, x, y', p, e, he, B f3⟩
    · rw [h2, Option.bind_some] at B
      rw [h1]
      dsimp only at B ⊢
      obtain ⟨y', h⟩ := read_l1_err A s x 0 (by omega) (a : Int) e he 0 0 [] rfl rfl
      exact Or.inr ⟨rfl, x, y', _, e, he, B h⟩
  | d + 1, i, a, x, hi, hx, ha => by
    have B := fun {r} => V.elem_read.l1010.of A (n : Int) (i : Int) s (a : Int) 0 true x (r := r)
    unfold F.elem_read.l1010.B at B
    rw [if_in (by omega), show (12 : Int) = ((12 : Nat) : Int) from rfl] at B
    rw [tailP_succ]
    rcases Text_both s hs a ha 12 (by omega) with ⟨t, c, h1, hc, h2, h3⟩ | ⟨h1, p, e, he, h3⟩
    · rw [h3, Option.bind_some] at B
      rw [h1, Option.bind_some]
      dsimp only at B ⊢
      rw [guard_dec (by simp [nmax]; omega), w64_up (show i < n by omega) (by omega)] at B
      rcases read_l0 A s hs n hn d (i + 1) c (x ++ [t]) (by omega) (by simp [hx]) hc with ⟨u, v, b, f1, f2, f3⟩ | ⟨f1, u, v, p, e, he, f3⟩
      · exact Or.inl ⟨u, v, b, f1, f2, B f3⟩
      · exact Or.inr ⟨f1, u, v, p, e, he, B f3⟩
    · rw [h3, Option.bind_some] at B
      rw [h1]
      dsimp only at B ⊢
      rw [guard_dec (by simp [nmax]; omega), w64_up (show i < n by omega) (by omega)] at B
      obtain ⟨x', y', h⟩ := read_l0_err A s n hn p e he d (i + 1) (x ++ [⟨#[]⟩]) (by omega) (by simp [hx])
      exact Or.inr ⟨rfl, x', y', p, e, he, B h⟩
theorem read_both (s : ByteArray) (hs : s.size ≤ 140737488351232) (a : Nat) (ha : a ≤ s.size) :
    (∃ u v b, readP 12 s a = some ((u, v), b) ∧ b ≤ s.size ∧ V.elem_read (s, (a : Int), 0, true) = some (u, v, s, (b : Int), 0, true)) ∨
    (readP 12 s a = none ∧ ∃ (u : List ByteArray) (v : List TProp) (p e : Int), e ≠ 0 ∧ V.elem_read (s, (a : Int), 0, true) = some (u, v, s, p, e, true)) := by
  have B := fun {r} => V.elem_read.of (s, (a : Int), 0, true) (r := r)
  unfold F.elem_read.B at B
  dsimp only at B
  unfold readP
  rw [show (8 : Int) = ((8 : Nat) : Int) from rfl] at B
  rcases Num_both s hs a ha 8 (by omega) with ⟨n, c, h1, h2⟩ | ⟨h1, e, he, h2⟩
  · obtain ⟨hn, hc⟩ := numP_le ha h1
    rw [h2, Option.bind_some] at B
    rw [h1, Option.bind_some]
    dsimp only at B ⊢
    have := read_l0 (s, (a : Int), 0, true) s hs n hn n 0 c [] (by omega) rfl hc
    unfold tailP at this
    simp only [List.nil_append] at this
    rcases this with ⟨u, v, b, f1, f2, f3⟩ | ⟨f1, u, v, p, e, he, f3⟩
    · exact Or.inl ⟨u, v, b, f1, f2, B f3⟩
    · exact Or.inr ⟨f1, u, v, p, e, he, B f3⟩
  · rw [h2, Option.bind_some] at B
    rw [h1]
    dsimp only at B ⊢
    obtain ⟨x', y', h⟩ := read_l0_err (s, (a : Int), 0, true) s 0 (by omega) (a : Int) e he 0 0 [] rfl rfl
    exact Or.inr ⟨rfl, x', y', _, e, he, B h⟩
theorem read_err (s : ByteArray) (p e : Int) (he : e ≠ 0) : ∃ u v, V.elem_read (s, p, e, true) = some (u, v, s, p, e, true) := by
  have B := fun {r} => V.elem_read.of (s, p, e, true) (r := r)
  unfold F.elem_read.B at B
  dsimp only at B
  rw [Num_err s p e he, Option.bind_some] at B
  dsimp only at B
  obtain ⟨x', y', h⟩ := read_l0_err (s, p, e, true) s 0 (by omega) p e he 0 0 [] rfl rfl
  exact ⟨x', y', B h⟩
/-! more room for names finds nothing else -/
end Go.Proofs.Ytdblhdpnllckhaa.AE
end
section
set_option linter.unusedVariables false
set_option linter.unusedSimpArgs false
set_option maxRecDepth 4000
namespace Go.Proofs.Ytdblhdpnllckhaa.AE
open Go

def Ranged (y : List TProp) : Prop := ∀ p ∈ y, -9223372036854775808 ≤ p.2.2.1 ∧ p.2.2.1 ≤ 9223372036854775807
theorem valueB_size {v : TValue} (h : valueB v = true) : v.2.2.size ≤ 64 := by
  unfold valueB at h
  simp only [Bool.or_eq_true, Bool.and_eq_true, beq_iff_eq, decide_eq_true_eq] at h
  omega
theorem Fine.texts {m : Nat} (hm : m ≤ 100) {x : List ByteArray} {y : List TProp} (h : Fine m x y) : okTexts x := ⟨by have := h.na; omega, fun t ht => by have := h.ta t ht; omega⟩
theorem Fine.props {m : Nat} (hm : m ≤ 100) {x : List ByteArray} {y : List TProp} (h : Fine m x y) : okProps y := ⟨by have := h.nl; omega, fun p hp => ⟨by have := (h.tl p hp).1; omega, by have := valueB_size (h.tl p hp).2.1; omega, (h.tl p hp).2.2⟩⟩
theorem Fine.ranged {m : Nat} {x : List ByteArray} {y : List TProp} (h : Fine m x y) : Ranged y := fun p hp => (h.tl p hp).2.2
theorem okProps.ranged {y : List TProp} (h : okProps y) : Ranged y := fun p hp => (h.2 p hp).2.2
theorem fine_rest {x : List ByteArray} {y : List TProp} (h : restN x y = 0) (hr : Ranged y) : Fine 12 x y := by
  obtain ⟨h1, h2, h3⟩ := restN_zero h
  refine ⟨h1, propsN_len h3, ?_, ?_⟩
  · intro t ht
    obtain ⟨i, hi, rfl⟩ := List.mem_iff_getElem.1 ht
    have := nameB_size (rowN_zero h2 hi).1
    rw [rd_get (e := .str) hi] at this
    omega
  · intro p hp
    have hr' := hr p hp
    obtain ⟨i, hi, rfl⟩ := List.mem_iff_getElem.1 hp
    have g := propsN_zero h3 hi
    rw [rd_get (e := sProp) hi] at g
    have := nameB_size g.1
    exact ⟨by omega, g.2.1, hr'⟩
theorem nodeN_rest {n : TNode} (h : nodeN n = 0) : nameB n.1 = true ∧ restN n.2.1 n.2.2 = 0 := by
  unfold nodeN at h
  split at h
  · rename_i g; exact ⟨g, h⟩
  · omega
theorem edgeN_rest {x : TEdge} (h : edgeN x = 0) : nameB x.1 = true ∧ nameB x.2.1 = true ∧ nameB x.2.2.1 = true ∧ restN x.2.2.2.1 x.2.2.2.2 = 0 := by
  unfold edgeN at h
  split at h
  · rename_i g
    simp only [Bool.and_eq_true] at g
    exact ⟨g.1.1, g.1.2, g.2, h⟩
  · omega

/-- The node with an Id, and these bytes. -/
def takeN (id s : ByteArray) : Option TNode := (readP 12 s 0).bind fun r => if nodeN (id, r.1.1, r.1.2) = 0 ∧ r.2 = s.size then some (id, r.1.1, r.1.2) else none
theorem takeN_iff (id s : ByteArray) (n : TNode) : takeN id s = some n ↔ n.1 = id ∧ nodeN n = 0 ∧ Ranged n.2.2 ∧ s = putB n.2.1 n.2.2 := by
  unfold takeN
  rw [Option.bind_eq_some_iff]
  constructor
  · rintro ⟨⟨⟨u, v⟩, b⟩, h1, h2⟩
    split at h2
    · rename_i h3
      simp only [Option.some.injEq] at h2
      subst h2
      obtain ⟨g1, g2, g3⟩ := (readP_iff 12 (by omega) s 0 u v b (by omega)).1 h1
      have h5 := h3.2
      simp only at h5 g2
      exact ⟨rfl, h3.1, g1.ranged, (at_all g3 (by omega)).symm⟩
    · cases h2
  · obtain ⟨i, x, y⟩ := n
    rintro ⟨rfl, h1, h2, rfl⟩
    refine ⟨((x, y), (putB x y).size), (readP_iff 12 (by omega) _ 0 x y _ (by omega)).2 ⟨fine_rest (nodeN_rest h1).2 h2, by omega, at_whole _⟩, ?_⟩
    rw [if_pos ⟨h1, rfl⟩]
abbrev noN : TNode := (⟨#[]⟩, [], [])
abbrev noE : TEdge := (⟨#[]⟩, ⟨#[]⟩, ⟨#[]⟩, [], [])
theorem New_ok (s : ByteArray) : V.scan_New s = some (s, 0, 0, true) := V.scan_New.of _ rfl
theorem End_ok (s : ByteArray) (p e : Int) : V.scan_Scan_End (s, p, e, true) = some (if e = 0 then (if p < (s.size : Int) then 3 else 0) else e, s, p, if e = 0 then (if p < (s.size : Int) then 3 else 0) else e, true) := by
  refine V.scan_Scan_End.of _ ?_
  unfold F.scan_Scan_End.B
  dsimp only
  simp only [Err_ok, Option.bind_some, meet_self]
  by_cases h : e = 0
  · subst h
    by_cases hp : p < (s.size : Int) <;> simp [hp]
  · simp [Bool.cond_eq_ite, h]
theorem TakeNode_ok (id s : ByteArray) (hi : id.size ≤ 140737488351232) (hs : s.size ≤ 140737488351232) :
    V.elem_TakeNode id s = some (match takeN id s with | some n => (n, 0) | none => (noN, 3)) := by
  have B := fun {r} => V.elem_TakeNode.of id s (r := r)
  unfold F.elem_TakeNode.B at B
  rw [New_ok, Option.bind_some] at B
  dsimp only at B
  unfold takeN
  rcases read_both s hs 0 (by omega) with ⟨u, v, b, h1, hb, h2⟩ | ⟨h1, u, v, p, e, he, h2⟩
  · rw [show ((0 : Nat) : Int) = 0 from rfl] at h2
    rw [h2, Option.bind_some] at B
    rw [h1, Option.bind_some]
    dsimp only at B ⊢
    have hF := ((readP_iff 12 (by omega) s 0 u v b (by omega)).1 h1).1
    rw [End_ok, Option.bind_some, if_pos rfl] at B
    dsimp only at B
    refine B ?_
    by_cases hb' : b = s.size
    · rw [if_neg (show ¬ ((b : Int) < (s.size : Int)) by omega), CheckNode_ok (id, u, v) ⟨hi, hF.texts (by omega), hF.props (by omega)⟩, Option.bind_some]
      by_cases hn : nodeN (id, u, v) = 0
      · rw [if_pos ⟨hn, hb'⟩]; simp [hn]
      · rw [if_neg (fun h => hn h.1)]; simp [Bool.cond_eq_ite, hn]
    · rw [if_pos (show ((b : Int) < (s.size : Int)) by omega), if_neg (fun h => hb' h.2)]
      rfl
  · rw [show ((0 : Nat) : Int) = 0 from rfl] at h2
    rw [h2, Option.bind_some] at B
    rw [h1]
    dsimp only at B ⊢
    rw [End_ok, Option.bind_some, if_neg he] at B
    exact B (by dsimp only; rw [bne_ne he]; rfl)
/-! edges -/
def edgeP (most : Nat) (s : ByteArray) : Option ((ByteArray × ByteArray × List ByteArray × List TProp) × Nat) :=
  (textP most s 0).bind fun f => (textP most s f.2).bind fun t => (readP most s t.2).bind fun r => some ((f.1, t.1, r.1.1, r.1.2), r.2)
theorem edgeP_iff (most : Nat) (hm : most < 18446744073709551616) (s f t : ByteArray) (x : List ByteArray) (y : List TProp) (b : Nat) :
    edgeP most s = some ((f, t, x, y), b) ↔ (f.size ≤ most ∧ t.size ≤ most ∧ Fine most x y) ∧ b = ((textB f ++ textB t) ++ putB x y).size ∧ AtB s 0 ((textB f ++ textB t) ++ putB x y) := by
  unfold edgeP
  rw [at_append, at_append, ByteArray.size_append, ByteArray.size_append, Option.bind_eq_some_iff]
  constructor
  · rintro ⟨⟨f', c⟩, h1, h2⟩
    obtain ⟨⟨t', d⟩, h3, h4⟩ := Option.bind_eq_some_iff.1 h2
    obtain ⟨⟨⟨x', y'⟩, e⟩, h5, h6⟩ := Option.bind_eq_some_iff.1 h4
    simp only [Option.some.injEq, Prod.mk.injEq] at h6
    obtain ⟨⟨rfl, rfl, rfl, rfl⟩, rfl⟩ := h6
    obtain ⟨a1, a2, a3⟩ := (textP_iff most hm s 0 f' c (by omega)).1 h1
    have hc : c ≤ s.size := by have := a3.1; omega
    obtain ⟨b1, b2, b3⟩ := (textP_iff most hm s c t' d hc).1 h3
    have hd : d ≤ s.size := by have := b3.1; omega
    obtain ⟨c1, c2, c3⟩ := (readP_iff most hm s d x' y' e hd).1 h5
    subst a2
    subst b2
    rw [Nat.zero_add] at b3
    rw [Nat.zero_add] at c3
    exact ⟨⟨a1, b1, c1⟩, by omega, ⟨a3, by rw [Nat.zero_add]; exact b3⟩, by rw [Nat.zero_add]; exact c3⟩
  · rintro ⟨⟨h1, h2, h3⟩, h4, ⟨h5, h6⟩, h7⟩
    have q1 := h5.1
    have q2 := h6.1
    rw [Nat.zero_add] at h6 h7
    refine ⟨(f, _), (textP_iff most hm s 0 f _ (by omega)).2 ⟨h1, rfl, h5⟩, Option.bind_eq_some_iff.2 ⟨(t, _), (textP_iff most hm s _ t _ (by simp only; omega)).2 ⟨h2, rfl, by simpa using h6⟩, Option.bind_eq_some_iff.2 ⟨((x, y), b), (readP_iff most hm s _ x y b (by simp only; omega)).2 ⟨h3, by simp only; omega, by simpa using h7⟩, rfl⟩⟩⟩
/-- The edge with an Id, and these bytes. -/
def takeE (id s : ByteArray) : Option TEdge := (edgeP 12 s).bind fun r => if edgeN (id, r.1.1, r.1.2.1, r.1.2.2.1, r.1.2.2.2) = 0 ∧ r.2 = s.size then some (id, r.1.1, r.1.2.1, r.1.2.2.1, r.1.2.2.2) else none
theorem takeE_iff (id s : ByteArray) (n : TEdge) : takeE id s = some n ↔ n.1 = id ∧ edgeN n = 0 ∧ Ranged n.2.2.2.2 ∧ s = (textB n.2.1 ++ textB n.2.2.1) ++ putB n.2.2.2.1 n.2.2.2.2 := by
  unfold takeE
  rw [Option.bind_eq_some_iff]
  constructor
  · rintro ⟨⟨⟨f', t', u, v⟩, b⟩, h1, h2⟩
    split at h2
    · rename_i h3
      simp only [Option.some.injEq] at h2
      subst h2
      obtain ⟨⟨_, _, g1⟩, g2, g3⟩ := (edgeP_iff 12 (by omega) s f' t' u v b).1 h1
      have h5 := h3.2
      simp only at h5
      exact ⟨rfl, h3.1, g1.ranged, (at_all g3 (by omega)).symm⟩
    · cases h2
  · obtain ⟨i, f, t, x, y⟩ := n
    rintro ⟨rfl, h1, h2, rfl⟩
    have hz := edgeN_rest h1
    have e1 := nameB_size hz.2.1
    have e2 := nameB_size hz.2.2.1
    refine ⟨((f, t, x, y), ((textB f ++ textB t) ++ putB x y).size), (edgeP_iff 12 (by omega) _ f t x y _).2 ⟨⟨by dsimp only at e1; omega, by dsimp only at e2; omega, fine_rest hz.2.2.2 h2⟩, rfl, at_whole _⟩, ?_⟩
    rw [if_pos ⟨h1, rfl⟩]
theorem TakeEdge_ok (id s : ByteArray) (hi : id.size ≤ 140737488351232) (hs : s.size ≤ 140737488351232) :
    V.elem_TakeEdge id s = some (match takeE id s with | some n => (n, 0) | none => (noE, 3)) := by
  have B := fun {r} => V.elem_TakeEdge.of id s (r := r)
  unfold F.elem_TakeEdge.B at B
  rw [New_ok, Option.bind_some] at B
  dsimp only at B
  rw [show (12 : Int) = ((12 : Nat) : Int) from rfl] at B
  unfold takeE edgeP
  have bad : ∀ (p e : Int), e ≠ 0 → ∀ (f t : ByteArray) (u : List ByteArray) (v : List TProp), ((V.scan_Scan_End (s, p, e, true)).bind fun t4 => (bif (t4.1 != 0) then (some (noE, (3 : Int))) else ((V.elem_CheckEdge (id, f, t, u, v)).bind fun t5 => (bif (t5 != 0) then (some (noE, 3)) else (some ((id, f, t, u, v), 0)))))) = some (noE, 3) := by
    intro p e he f t u v
    rw [End_ok, if_neg he, Option.bind_some]
    dsimp only
    rw [bne_ne he, cond_true]
  rcases Text_both s hs 0 (by omega) 12 (by omega) with ⟨f, c, h1, hc, h2, h3⟩ | ⟨h1, p, e, he, h3⟩
  · rw [show ((0 : Nat) : Int) = 0 from rfl] at h3
    rw [h3, Option.bind_some] at B
    rw [h1, Option.bind_some]
    dsimp only at B ⊢
    rcases Text_both s hs c hc 12 (by omega) with ⟨t, d, k1, kc, k2, k3⟩ | ⟨k1, p, e, he, k3⟩
    · rw [k3, Option.bind_some] at B
      rw [k1, Option.bind_some]
      dsimp only at B ⊢
      rcases read_both s hs d kc with ⟨u, v, b, g1, gb, g2⟩ | ⟨g1, u, v, p, e, he, g2⟩
      · rw [g2, Option.bind_some] at B
        rw [g1, Option.bind_some, Option.bind_some]
        dsimp only at B ⊢
        have hF := ((readP_iff 12 (by omega) s d u v b kc).1 g1).1
        rw [End_ok, Option.bind_some, if_pos rfl] at B
        dsimp only at B
        refine B ?_
        by_cases hb' : b = s.size
        · rw [if_neg (show ¬ ((b : Int) < (s.size : Int)) by omega), CheckEdge_ok (id, f, t, u, v) ⟨hi, by dsimp only; omega, by dsimp only; omega, hF.texts (by omega), hF.props (by omega)⟩, Option.bind_some]
          by_cases hn : edgeN (id, f, t, u, v) = 0
          · rw [if_pos ⟨hn, hb'⟩]; simp [hn]
          · rw [if_neg (fun h => hn h.1)]; simp [Bool.cond_eq_ite, hn]
        · rw [if_pos (show ((b : Int) < (s.size : Int)) by omega), if_neg (fun h => hb' h.2)]
          rfl
      · rw [g2, Option.bind_some] at B
        rw [g1]
        exact B (bad p e he _ _ _ _)
    · rw [k3, Option.bind_some] at B
      rw [k1]
      dsimp only at B ⊢
      obtain ⟨u, v, g⟩ := read_err s p e he
      rw [g, Option.bind_some] at B
      exact B (bad p e he _ _ _ _)
  · rw [show ((0 : Nat) : Int) = 0 from rfl] at h3
    rw [h3, Option.bind_some] at B
    rw [h1]
    dsimp only at B ⊢
    rw [Text_err s p e he, Option.bind_some] at B
    dsimp only at B
    obtain ⟨u, v, g⟩ := read_err s p e he
    rw [g, Option.bind_some] at B
    exact B (bad p e he _ _ _ _)
end Go.Proofs.Ytdblhdpnllckhaa.AE
end
section
set_option linter.unusedVariables false
set_option linter.unusedSimpArgs false
set_option maxRecDepth 4000
namespace Go.Proofs.Ytdblhdpnllckhaa.AE
open Go

def nodeOr (x : TEntry) : TNode := (takeN x.1 x.2).getD noN
def badN (x : TEntry) : Bool := (takeN x.1 x.2).isNone
def edgeOr (x : TEntry) : TEdge := (takeE x.1 x.2).getD noE
def badE (x : TEntry) : Bool := (takeE x.1 x.2).isNone
structure okMap (l : List TEntry) : Prop where
  len : l.length ≤ 140737488351232
  at_ : ∀ x ∈ l, x.1.size ≤ 140737488351232 ∧ x.2.size ≤ 140737488351232
theorem TakeNodes_l (l : List TEntry) (hl : l.length ≤ 60) (ho : okMap l) : ∀ (d i : Nat) (acc : List TNode), i + d = l.length → acc.length = i →
    V.keys_TakeNodes.l11010 l (i : Int) acc = some (if (l.drop i).any badN then ([], 3) else (acc ++ (l.drop i).map nodeOr, 0))
  | 0, i, acc, h, ha => by
    refine V.keys_TakeNodes.l11010.of _ _ _ ?_
    unfold F.keys_TakeNodes.l11010.B
    rw [if_out (by omega), List.drop_eq_nil_of_le (by omega)]
    simp
  | d + 1, i, acc, h, ha => by
    refine V.keys_TakeNodes.l11010.of _ _ _ ?_
    unfold F.keys_TakeNodes.l11010.B
    have hi : i < l.length := by omega
    have hx := ho.at_ _ (rd_mem (e := sEntry) hi)
    rw [if_in hi, guard_in hi, nat_cast, TakeNode_ok _ _ hx.1 hx.2, Option.bind_some, drop_rd (e := sEntry) hi]
    have hn : nodeOr (rd sEntry l i) = (takeN (rd sEntry l i).1 (rd sEntry l i).2).getD noN := rfl
    have hb : badN (rd sEntry l i) = (takeN (rd sEntry l i).1 (rd sEntry l i).2).isNone := rfl
    have ih := fun n : TNode => TakeNodes_l l hl ho d (i + 1) (acc ++ [n]) (by omega) (by simp [ha])
    generalize rd sEntry l i = x at *
    cases ht : takeN x.1 x.2 with
    | none => rw [ht] at hb; simp [hb]
    | some n =>
      rw [ht] at hn hb
      dsimp only
      rw [guard_dec (by simp [nmax]; omega), w64_up hi (by omega), ih]
      obtain ⟨n1, n2, n3⟩ := n
      rw [List.any_cons, List.map_cons, show badN x = false from hb, show nodeOr x = (n1, n2, n3) from hn, Bool.false_or, List.append_assoc]
      rfl
theorem TakeNodes_ok (l : List TEntry) (hl : l.length ≤ 60) (ho : okMap l) : V.keys_TakeNodes l = some (if l.any badN then ([], 3) else (l.map nodeOr, 0)) := by
  refine V.keys_TakeNodes.of _ ?_
  unfold F.keys_TakeNodes.B
  have := TakeNodes_l l hl ho l.length 0 [] (by omega) rfl
  rw [List.drop_zero, List.nil_append] at this
  exact this
theorem TakeEdges_l (l : List TEntry) (hl : l.length ≤ 60) (ho : okMap l) : ∀ (d i : Nat) (acc : List TEdge), i + d = l.length → acc.length = i →
    V.keys_TakeEdges.l11010 l (i : Int) acc = some (if (l.drop i).any badE then ([], 3) else (acc ++ (l.drop i).map edgeOr, 0))
  | 0, i, acc, h, ha => by
    refine V.keys_TakeEdges.l11010.of _ _ _ ?_
    unfold F.keys_TakeEdges.l11010.B
    rw [if_out (by omega), List.drop_eq_nil_of_le (by omega)]
    simp
  | d + 1, i, acc, h, ha => by
    refine V.keys_TakeEdges.l11010.of _ _ _ ?_
    unfold F.keys_TakeEdges.l11010.B
    have hi : i < l.length := by omega
    have hx := ho.at_ _ (rd_mem (e := sEntry) hi)
    rw [if_in hi, guard_in hi, nat_cast, TakeEdge_ok _ _ hx.1 hx.2, Option.bind_some, drop_rd (e := sEntry) hi]
    have hn : edgeOr (rd sEntry l i) = (takeE (rd sEntry l i).1 (rd sEntry l i).2).getD noE := rfl
    have hb : badE (rd sEntry l i) = (takeE (rd sEntry l i).1 (rd sEntry l i).2).isNone := rfl
    have ih := fun n : TEdge => TakeEdges_l l hl ho d (i + 1) (acc ++ [n]) (by omega) (by simp [ha])
    generalize rd sEntry l i = x at *
    cases ht : takeE x.1 x.2 with
    | none => rw [ht] at hb; simp [hb]
    | some n =>
      rw [ht] at hn hb
      dsimp only
      rw [guard_dec (by simp [nmax]; omega), w64_up hi (by omega), ih]
      obtain ⟨n1, n2, n3, n4, n5⟩ := n
      rw [List.any_cons, List.map_cons, show badE x = false from hb, show edgeOr x = (n1, n2, n3, n4, n5) from hn, Bool.false_or, List.append_assoc]
      rfl
theorem TakeEdges_ok (l : List TEntry) (hl : l.length ≤ 60) (ho : okMap l) : V.keys_TakeEdges l = some (if l.any badE then ([], 3) else (l.map edgeOr, 0)) := by
  refine V.keys_TakeEdges.of _ ?_
  unfold F.keys_TakeEdges.B
  have := TakeEdges_l l hl ho l.length 0 [] (by omega) rfl
  rw [List.drop_zero, List.nil_append] at this
  exact this
theorem awake31_ok : V.pleachlaw31_awake = some true := by
  refine V.pleachlaw31_awake.of ?_
  unfold F.pleachlaw31_awake.B
  have e : V.keys_Of (⟨#[97]⟩ : ByteArray) (⟨#[120]⟩ : ByteArray) = some ((⟨#[97]⟩ ++ ⟨#[0]⟩) ++ ⟨#[120]⟩, 0) := by
    refine V.keys_Of.of _ _ ?_
    unfold F.keys_Of.B
    have n1 : nameB (⟨#[97]⟩ : ByteArray) = true := by decide
    have n2 : nameB (⟨#[120]⟩ : ByteArray) = true := by decide
    rw [name_Check_ok _ (by decide), name_Check_ok _ (by decide), n1, n2]
    rfl
  rw [e, Option.bind_some, show ((⟨#[97]⟩ : ByteArray) ++ ⟨#[0]⟩) ++ ⟨#[120]⟩ = ⟨#[97, 0, 120]⟩ by decide +kernel]
  dsimp only
  rw [strEq_self]
  rfl
end Go.Proofs.Ytdblhdpnllckhaa.AE
end
section
set_option linter.unusedVariables false
set_option linter.unusedSimpArgs false
namespace Go.Proofs.Ytdblhdpnllckhaa.AE
open Go

/-- An order in which some may stand alike. -/
structure Weak {α : Type} (lt : α → α → Bool) : Prop where
  irr : ∀ a, lt a a = false
  trans : ∀ a b c, lt a b = true → lt b c = true → lt a c = true
  comp : ∀ a b c, lt a c = true → lt a b = true ∨ lt b c = true

section
variable {α : Type} {lt : α → α → Bool}

/-- No one stands ahead of an earlier one. -/
def Srt (lt : α → α → Bool) (l : List α) : Prop := l.Pairwise fun a b => lt b a = false

theorem Weak.asymm (w : Weak lt) {a b : α} (h : lt a b = true) : lt b a = false := by
  cases hb : lt b a with
  | false => rfl
  | true => have := w.trans a b a h hb; rw [w.irr] at this; cases this
/-- Not behind, and not behind: not behind. -/
theorem Weak.le_trans (w : Weak lt) {a b c : α} (h : lt b a = false) (g : lt c b = false) : lt c a = false := by
  cases hb : lt c a with
  | false => rfl
  | true =>
    rcases w.comp c b a hb with k | k
    · rw [g] at k; cases k
    · rw [h] at k; cases k

theorem srt_app {x y : List α} : Srt lt (x ++ y) ↔ Srt lt x ∧ Srt lt y ∧ ∀ a ∈ x, ∀ b ∈ y, lt b a = false := List.pairwise_append
theorem srt_nil : Srt lt ([] : List α) := List.Pairwise.nil
theorem srt_one (a : α) : Srt lt [a] := List.pairwise_singleton _ _
theorem srt_cons {a : α} {y : List α} : Srt lt (a :: y) ↔ (∀ b ∈ y, lt b a = false) ∧ Srt lt y := List.pairwise_cons
/-- All are at most the last one; at least the first one. -/
theorem srt_last (w : Weak lt) {x : List α} {u : α} (h : Srt lt (x ++ [u])) : ∀ a ∈ x ++ [u], lt u a = false := by
  intro a ha
  rw [List.mem_append, List.mem_singleton] at ha
  rcases ha with ha | rfl
  · exact (srt_app.1 h).2.2 a ha u (by simp)
  · exact w.irr _
theorem srt_first (w : Weak lt) {y : List α} {v : α} (h : Srt lt (v :: y)) : ∀ b ∈ v :: y, lt b v = false := by
  intro b hb
  rcases List.mem_cons.1 hb with rfl | hb
  · exact w.irr _
  · exact (srt_cons.1 h).1 b hb

/-- Two sorted rows of the same ones, no two of which stand alike, are the same row. -/
theorem srt_unique (w : Weak lt) : ∀ {x y : List α}, x.Perm y → Srt lt x → (y.Pairwise fun a b => lt a b = true) → x = y
  | [], y, h, _, _ => (List.nil_perm.1 h).symm
  | a :: x, [], h, _, _ => absurd h.symm (by simp)
  | a :: x, b :: y, h, hx, hy => by
    have hab : a = b := by
      have ha : a ∈ b :: y := h.subset (by simp)
      rcases List.mem_cons.1 ha with e | ha
      · exact e
      · have hb : b ∈ a :: x := h.symm.subset (by simp)
        rcases List.mem_cons.1 hb with e | hb
        · exact e.symm
        · have h1 := (srt_cons.1 hx).1 b hb
          have h2 := (List.pairwise_cons.1 hy).1 a ha
          rw [h2] at h1; cases h1
    subst hab
    rw [srt_unique w ((List.perm_cons a).1 h) (srt_cons.1 hx).2 (List.pairwise_cons.1 hy).2]

/-! ### Two places change over -/

/-- What is behind a first part. -/
theorem app_at {x y : List α} {i : Nat} (d : α) (h : i = x.length) (a : α) : (x ++ a :: y).getD i d = a := by
  subst h
  simp [List.getD_eq_getElem?_getD]
theorem set_at {x y : List α} {i : Nat} (h : i = x.length) (a b : α) : (x ++ a :: y).set i b = x ++ b :: y := by
  subst h
  simp
theorem swap_at {x y z : List α} {i j : Nat} (u v : α) (hi : i = x.length) (hj : j = x.length + (1 + y.length)) : ((x ++ u :: (y ++ v :: z)).set i v).set j u = x ++ v :: (y ++ u :: z) := by
  rw [set_at hi]
  have e : x ++ v :: (y ++ v :: z) = (x ++ v :: y) ++ v :: z := by simp
  rw [e, set_at (by simp; omega)]
  simp

/-! ### Merging -/

/-- The heart of the merge by halves: X1 X2 and Y1 Y2 are sorted; cut so, X1 Y1 stand ahead of X2 Y2. -/
theorem halves (w : Weak lt) {x1 x2 y1 y2 : List α} (hx : Srt lt (x1 ++ x2)) (hy : Srt lt (y1 ++ y2))
    (h1 : x1 = [] ∨ y2 = [] ∨ ∃ u x v y, x1 = x ++ [u] ∧ y2 = v :: y ∧ lt v u = false)
    (h2 : y1 = [] ∨ x2 = [] ∨ ∃ u y v x, y1 = y ++ [u] ∧ x2 = v :: x ∧ lt u v = true) :
    ∀ a ∈ x1 ++ y1, ∀ b ∈ x2 ++ y2, lt b a = false := by
  intro a ha b hb
  obtain ⟨sx1, sx2, cx⟩ := srt_app.1 hx
  obtain ⟨sy1, sy2, cy⟩ := srt_app.1 hy
  rw [List.mem_append] at ha hb
  rcases ha with ha | ha <;> rcases hb with hb | hb
  · exact cx a ha b hb
  · rcases h1 with rfl | rfl | ⟨u, x, v, y, rfl, rfl, h⟩
    · cases ha
    · cases hb
    · exact w.le_trans (srt_last w sx1 a ha) (w.le_trans h (srt_first w sy2 b hb))
  · rcases h2 with rfl | rfl | ⟨u, y, v, x, rfl, rfl, h⟩
    · cases ha
    · cases hb
    · exact w.le_trans (srt_last w sy1 a ha) (w.le_trans (w.asymm h) (srt_first w sx2 b hb))
  · exact cy a ha b hb
/-- One that goes into its place in a sorted row, from ahead of it. -/
theorem insert_up (w : Weak lt) {y1 y2 : List α} {x : α} (hy : Srt lt (y1 ++ y2)) (h1 : y1 = [] ∨ ∃ y u, y1 = y ++ [u] ∧ lt u x = true) (h2 : y2 = [] ∨ ∃ v y, y2 = v :: y ∧ lt v x = false) : Srt lt (y1 ++ x :: y2) := by
  obtain ⟨s1, s2, c⟩ := srt_app.1 hy
  have g1 : ∀ a ∈ y1, lt x a = false := by
    intro a ha
    rcases h1 with rfl | ⟨y, u, rfl, h⟩
    · cases ha
    · exact w.le_trans (srt_last w s1 a ha) (w.asymm h)
  have g2 : ∀ b ∈ y2, lt b x = false := by
    intro b hb
    rcases h2 with rfl | ⟨v, y, rfl, h⟩
    · cases hb
    · exact w.le_trans h (srt_first w s2 b hb)
  refine srt_app.2 ⟨s1, srt_cons.2 ⟨g2, s2⟩, fun a ha b hb => ?_⟩
  rcases List.mem_cons.1 hb with rfl | hb
  · exact g1 a ha
  · exact c a ha b hb
/-- .. from behind it. -/
theorem insert_down (w : Weak lt) {x1 x2 : List α} {y : α} (hx : Srt lt (x1 ++ x2)) (h1 : x1 = [] ∨ ∃ x u, x1 = x ++ [u] ∧ lt y u = false) (h2 : x2 = [] ∨ ∃ v x, x2 = v :: x ∧ lt y v = true) : Srt lt (x1 ++ y :: x2) := by
  obtain ⟨s1, s2, c⟩ := srt_app.1 hx
  have g1 : ∀ a ∈ x1, lt y a = false := by
    intro a ha
    rcases h1 with rfl | ⟨x, u, rfl, h⟩
    · cases ha
    · exact w.le_trans (srt_last w s1 a ha) h
  have g2 : ∀ b ∈ x2, lt b y = false := by
    intro b hb
    rcases h2 with rfl | ⟨v, x, rfl, h⟩
    · cases hb
    · exact w.le_trans (w.asymm h) (srt_first w s2 b hb)
  refine srt_app.2 ⟨s1, srt_cons.2 ⟨g2, s2⟩, fun a ha b hb => ?_⟩
  rcases List.mem_cons.1 hb with rfl | hb
  · exact g1 a ha
  · exact c a ha b hb

/-! ### Blocks -/

/-- From a place on, all blocks of k are sorted. -/
def Blk' (lt : α → α → Bool) (k : Nat) (l : List α) (p : Nat → Prop) : Prop := ∀ j, p (j * k) → Srt lt ((l.drop (j * k)).take k)
theorem srt_take {l : List α} (h : Srt lt l) (n : Nat) : Srt lt (l.take n) := List.Pairwise.sublist (List.take_sublist n l) h
theorem srt_drop {l : List α} (h : Srt lt l) (n : Nat) : Srt lt (l.drop n) := List.Pairwise.sublist (List.drop_sublist n l) h

/-- Behind a change of the part from a to b. -/
structure Done (lt : α → α → Bool) (a b : Nat) (l l' : List α) : Prop where
  ex : ∃ z, l' = l.take a ++ z ++ l.drop b ∧ z.Perm ((l.take b).drop a) ∧ Srt lt z
theorem seg_split (l : List α) {a b : Nat} (h : a ≤ b) : l = l.take a ++ (l.take b).drop a ++ l.drop b := by
  have e1 : l.take a = (l.take b).take a := by rw [List.take_take, Nat.min_eq_left h]
  rw [e1, List.take_append_drop, List.take_append_drop]
theorem Done.perm {a b : Nat} {l l' : List α} (h : a ≤ b) (d : Done lt a b l l') : l'.Perm l := by
  obtain ⟨z, rfl, hp, _⟩ := d.ex
  conv => rhs; rw [seg_split l h]
  exact ((List.Perm.refl _).append hp).append_right _
theorem Done.len {a b : Nat} {l l' : List α} (h : a ≤ b) (d : Done lt a b l l') : l'.length = l.length := (d.perm h).length_eq
theorem Done.drop {a b : Nat} {l l' : List α} (h : a ≤ b) (hb : b ≤ l.length) (d : Done lt a b l l') {c : Nat} (hc : b ≤ c) : l'.drop c = l.drop c := by
  have hl := d.len h
  obtain ⟨z, rfl, hp, _⟩ := d.ex
  have hz : (l.take a ++ z).length = b := by
    have := hp.length_eq
    simp at this ⊢
    omega
  rw [List.drop_append, hz, List.drop_eq_nil_of_le (by omega), List.nil_append, List.drop_drop]
  congr 1; omega
theorem Done.take {a b : Nat} {l l' : List α} (h : a ≤ b) (hb : b ≤ l.length) (d : Done lt a b l l') {c : Nat} (hc : c ≤ a) : l'.take c = l.take c := by
  obtain ⟨z, rfl, hp, _⟩ := d.ex
  rw [List.append_assoc, List.take_append_of_le_length (by rw [List.length_take]; omega), List.take_take, Nat.min_eq_left hc]
theorem Done.mid {a b : Nat} {l l' : List α} (h : a ≤ b) (hb : b ≤ l.length) (d : Done lt a b l l') : Srt lt ((l'.take b).drop a) := by
  obtain ⟨z, rfl, hp, hs⟩ := d.ex
  have hl : (l.take a).length = a := by rw [List.length_take]; omega
  have hz : (l.take a ++ z).length = b := by
    have := hp.length_eq
    simp at this ⊢
    omega
  rw [List.take_left' hz, List.drop_left' hl]
  exact hs
end
end Go.Proofs.Ytdblhdpnllckhaa.AE
end
section
set_option linter.unusedVariables false
set_option linter.unusedSimpArgs false
set_option maxRecDepth 20000
namespace Go.Proofs.Ytdblhdpnllckhaa.AE
open Go

def ltE (x y : TEntry) : Bool := strLt x.1 y.1
theorem rd_arr (d : Array TEntry) {i : Nat} (h : i < d.size) : rd sEntry d.toList i = d[i]! := by
  rw [rd_get (e := sEntry) (by simpa using h), getElem!_pos d i h, Array.getElem_toList]
theorem set_arr (d : Array TEntry) {i j : Nat} (hi : i < d.size) (hj : j < d.size) : (d.toList.set i (rd sEntry d.toList j)).set j (rd sEntry d.toList i) = (Sort.swp d i j).toList := by
  rw [rd_arr d hi, rd_arr d hj]
  simp [Sort.swp]
theorem row1_ok (x y : TEntry) : V.keys_row_1 x y = some (cmpS x.1 y.1) := by
  refine V.keys_row_1.of _ _ ?_
  unfold F.keys_row_1.B
  rw [cmpCompareS_ok, Option.bind_some]
theorem cmpK {β : Type} (d : Array TEntry) (i j : Nat) (hi : i < d.size) (hj : j < d.size) (k : Int → Option β) :
    guardK (decide (0 ≤ (i : Int)) && decide ((i : Int) < (d.toList.length : Int))) (guardK (decide (0 ≤ (j : Int)) && decide ((j : Int) < (d.toList.length : Int)))
      ((V.keys_row_1 ((rd sEntry d.toList (i : Int).toNat).1, (rd sEntry d.toList (i : Int).toNat).2) ((rd sEntry d.toList (j : Int).toNat).1, (rd sEntry d.toList (j : Int).toNat).2)).bind k)) = k (cmpS d[i]!.1 d[j]!.1) := by
  have hl : d.toList.length = d.size := Array.length_toList
  rw [guard_in (by omega), guard_in (by omega), nat_cast, nat_cast]
  show (V.keys_row_1 (rd sEntry d.toList i) (rd sEntry d.toList j)).bind k = _
  rw [row1_ok, Option.bind_some, rd_arr d hi, rd_arr d hj]
theorem cmp_lt (x y : TEntry) : decide (cmpS x.1 y.1 < 0) = ltE x y := cmpS_neg x.1 y.1
theorem swapK {β : Type} (d : Array TEntry) (i j : Nat) (hi : i < d.size) (hj : j < d.size) (k : List TEntry → Option β) :
    guardK (decide (0 ≤ (j : Int)) && decide ((j : Int) < (d.toList.length : Int))) (guardK (decide (0 ≤ (i : Int)) && decide ((i : Int) < (d.toList.length : Int)))
      (meet (guardK (decide (0 ≤ (i : Int)) && decide ((i : Int) < (d.toList.length : Int))) (guardK (decide (0 ≤ (j : Int)) && decide ((j : Int) < ((d.toList.set (i : Int).toNat ((rd sEntry d.toList (j : Int).toNat).1, (rd sEntry d.toList (j : Int).toNat).2)).length : Int)))
          (k ((d.toList.set (i : Int).toNat ((rd sEntry d.toList (j : Int).toNat).1, (rd sEntry d.toList (j : Int).toNat).2)).set (j : Int).toNat ((rd sEntry d.toList (i : Int).toNat).1, (rd sEntry d.toList (i : Int).toNat).2)))))
        (guardK (decide (0 ≤ (i : Int)) && decide ((i : Int) < (d.toList.length : Int))) (guardK (decide (0 ≤ (j : Int)) && decide ((j : Int) < ((d.toList.set (i : Int).toNat ((rd sEntry d.toList (j : Int).toNat).1, (rd sEntry d.toList (j : Int).toNat).2)).length : Int)))
          (k ((d.toList.set (i : Int).toNat ((rd sEntry d.toList (j : Int).toNat).1, (rd sEntry d.toList (j : Int).toNat).2)).set (j : Int).toNat ((rd sEntry d.toList (i : Int).toNat).1, (rd sEntry d.toList (i : Int).toNat).2))))))) = k (Sort.swp d i j).toList := by
  have hl : d.toList.length = d.size := Array.length_toList
  rw [meet_self, guard_in (by omega), guard_in (by omega), guard_in (by omega), guard_in (by rw [List.length_set]; omega), nat_cast, nat_cast]
  show k ((d.toList.set i (rd sEntry d.toList j)).set j (rd sEntry d.toList i)) = _
  rw [set_arr d hi hj]
theorem swp_sz (d : Array TEntry) (i j : Nat) : (Sort.swp d i j).size = d.size := Sort.size_swp d i j
theorem up1 {x : Nat} (h : x ≤ 100000) : w64 ((x : Int) + 1) = ((x + 1 : Nat) : Int) := by rw [w64_id (by omega) (by omega)]; omega
theorem dn1 {x : Nat} (h : x ≤ 100000) : w64 (((x + 1 : Nat) : Int) - 1) = (x : Int) := by rw [w64_id (by omega) (by omega)]; omega
theorem dn1' {x : Nat} (h : x ≤ 100000) (h0 : 0 < x) : w64 ((x : Int) - 1) = ((x - 1 : Nat) : Int) := by rw [w64_id (by omega) (by omega)]; omega
theorem addw {x y : Nat} (h : x + y ≤ 1000000) : w64 ((x : Int) + (y : Int)) = ((x + y : Nat) : Int) := by rw [w64_id (by omega) (by omega)]; omega
theorem subw {x y : Nat} (h : y ≤ x) (hb : x ≤ 1000000) : w64 ((x : Int) - (y : Int)) = ((x - y : Nat) : Int) := by rw [w64_id (by omega) (by omega)]; omega

/-! ### Insertions -/

theorem insE_in (a0 : List TEntry) (a2 : Int) (a x : Nat) (hx : x ≤ 10000) (r : List TEntry) : ∀ (j : Nat) (d : Array TEntry), j < d.size → d.size ≤ 10000 → V.slices_insertionSortCmpFunc_apiEntry_by_keys_row_1.l10 a0 (a : Int) a2 ((x + 1 : Nat) : Int) (Sort.insInner ltE a j d).toList = some r →
    V.slices_insertionSortCmpFunc_apiEntry_by_keys_row_1.l10010010 a0 (a : Int) a2 (x : Int) (j : Int) d.toList = some r
  | 0, d, hj, hb, h => by
    refine V.slices_insertionSortCmpFunc_apiEntry_by_keys_row_1.l10010010.of _ _ _ _ _ _ ?_
    unfold F.slices_insertionSortCmpFunc_apiEntry_by_keys_row_1.l10010010.B
    rw [if_no (by omega), up1 (by omega)]
    exact h
  | j + 1, d, hj, hb, h => by
    refine V.slices_insertionSortCmpFunc_apiEntry_by_keys_row_1.l10010010.of _ _ _ _ _ _ ?_
    unfold F.slices_insertionSortCmpFunc_apiEntry_by_keys_row_1.l10010010.B
    unfold Sort.insInner at h
    by_cases ha : j + 1 > a
    · rw [if_yes (by omega), dn1 (by omega), up1 (by omega)]
      refine (cmpK d (j + 1) j hj (by omega) _).trans ?_
      rw [cmp_lt]
      cases hc : ltE d[j + 1]! d[j]! with
      | true =>
        rw [cond_true]
        refine (swapK d (j + 1) j hj (by omega) (fun L => V.slices_insertionSortCmpFunc_apiEntry_by_keys_row_1.l10010010 a0 (a : Int) a2 (x : Int) (j : Int) L)).trans ?_
        exact insE_in a0 a2 a x hx r j _ (by rw [swp_sz]; omega) (by rw [swp_sz]; exact hb) (by simpa [ha, hc] using h)
      | false => exact (by simpa [ha, hc] using h)
    · rw [if_no (by omega), up1 (by omega)]
      simpa [ha] using h
theorem insE_out (a0 : List TEntry) (a b : Nat) : ∀ (k x : Nat) (d : Array TEntry), x + k = b → b ≤ d.size → d.size ≤ 10000 →
    V.slices_insertionSortCmpFunc_apiEntry_by_keys_row_1.l10 a0 (a : Int) (b : Int) (x : Int) d.toList = some (Sort.insOuter ltE a b x d).toList
  | 0, x, d, hx, hb, hs => by
    refine V.slices_insertionSortCmpFunc_apiEntry_by_keys_row_1.l10.of _ _ _ _ _ ?_
    unfold F.slices_insertionSortCmpFunc_apiEntry_by_keys_row_1.l10.B Sort.insOuter
    rw [if_no (by omega), if_neg (by omega)]
  | k + 1, x, d, hx, hb, hs => by
    refine V.slices_insertionSortCmpFunc_apiEntry_by_keys_row_1.l10.of _ _ _ _ _ ?_
    unfold F.slices_insertionSortCmpFunc_apiEntry_by_keys_row_1.l10.B Sort.insOuter
    rw [if_yes (by omega), if_pos (by omega)]
    have hz : (Sort.insInner ltE a x d).size = d.size := insInner_sz a x d
    exact insE_in a0 _ a x (by omega) _ x d (by omega) hs (insE_out a0 a b k (x + 1) _ (by omega) (by omega) (by omega))
where insInner_sz (a : Nat) : ∀ (j : Nat) (d : Array TEntry), (Sort.insInner ltE a j d).size = d.size
  | 0, d => rfl
  | j + 1, d => by
    unfold Sort.insInner
    split
    · rw [insInner_sz a j, swp_sz]
    · rfl
theorem insE_ok (d : Array TEntry) (a b : Nat) (hab : a < b) (hb : b ≤ d.size) (hs : d.size ≤ 10000) : V.slices_insertionSortCmpFunc_apiEntry_by_keys_row_1 d.toList (a : Int) (b : Int) = some (Sort.insertionSort ltE d a b).toList := by
  refine V.slices_insertionSortCmpFunc_apiEntry_by_keys_row_1.of _ _ _ ?_
  unfold F.slices_insertionSortCmpFunc_apiEntry_by_keys_row_1.B
  rw [up1 (by omega)]
  exact insE_out _ a b (b - (a + 1)) (a + 1) d (by omega) hb hs

end Go.Proofs.Ytdblhdpnllckhaa.AE
end
section
set_option linter.unusedVariables false
set_option linter.unusedSimpArgs false
set_option maxRecDepth 20000
namespace Go.Proofs.Ytdblhdpnllckhaa.AE
open Go

/-! ### The heap -/

theorem siftE_sz (hi first : Nat) : ∀ (n root : Nat) (d : Array TEntry), hi - root ≤ n → (Sort.siftDown ltE hi first root d).size = d.size
  | 0, root, d, h => by
    unfold Sort.siftDown
    rw [dif_pos (by omega)]
  | n + 1, root, d, h => by
    unfold Sort.siftDown
    split
    · rfl
    · split
      · split
        · rfl
        · split
          · rw [siftE_sz hi first n _ _ (by omega), swp_sz]
          · rfl
      · split
        · rfl
        · rw [siftE_sz hi first n _ _ (by omega), swp_sz]
/-- The step below: a child was chosen. -/
theorem siftE_go (a0 : List TEntry) (a1 : Int) (hi first root c : Nat) (d : Array TEntry) (r : List TEntry) (hc : c < hi) (hrc : root < c) (hb : first + hi ≤ d.size) (hs : d.size ≤ 10000)
    (h : if ltE d[first + root]! d[first + c]! then V.slices_siftDownCmpFunc_apiEntry_by_keys_row_1.l10 a0 a1 (hi : Int) (first : Int) (c : Int) (Sort.swp d (first + root) (first + c)).toList = some r else d.toList = r) :
    V.slices_siftDownCmpFunc_apiEntry_by_keys_row_1.j1000111 a0 a1 (hi : Int) (first : Int) (root : Int) (c : Int) d.toList = some r := by
  refine V.slices_siftDownCmpFunc_apiEntry_by_keys_row_1.j1000111.of _ _ _ _ _ _ _ ?_
  unfold F.slices_siftDownCmpFunc_apiEntry_by_keys_row_1.j1000111.B
  rw [addw (by omega), addw (by omega)]
  refine (cmpK d (first + root) (first + c) (by omega) (by omega) _).trans ?_
  rw [cmp_lt]
  refine V.slices_siftDownCmpFunc_apiEntry_by_keys_row_1.j100011101.of _ _ _ _ _ _ _ _ ?_
  unfold F.slices_siftDownCmpFunc_apiEntry_by_keys_row_1.j100011101.B
  cases hl : ltE d[first + root]! d[first + c]! with
  | false =>
    rw [hl] at h
    rw [Bool.not_false, cond_true]
    exact congrArg some h
  | true =>
    rw [hl, if_pos rfl] at h
    rw [Bool.not_true, cond_false]
    refine V.slices_siftDownCmpFunc_apiEntry_by_keys_row_1.j10001111.of _ _ _ _ _ _ _ ?_
    unfold F.slices_siftDownCmpFunc_apiEntry_by_keys_row_1.j10001111.B
    rw [addw (by omega), addw (by omega)]
    refine (swapK d (first + root) (first + c) (by omega) (by omega) (fun L => V.slices_siftDownCmpFunc_apiEntry_by_keys_row_1.j100011111 a0 a1 (hi : Int) (first : Int) (c : Int) L)).trans ?_
    refine V.slices_siftDownCmpFunc_apiEntry_by_keys_row_1.j100011111.of _ _ _ _ _ _ ?_
    unfold F.slices_siftDownCmpFunc_apiEntry_by_keys_row_1.j100011111.B
    exact h
theorem siftE_l (a0 : List TEntry) (a1 : Int) (hi first : Nat) : ∀ (n root : Nat) (d : Array TEntry), hi - root ≤ n → root ≤ 10000 → first + hi ≤ d.size → d.size ≤ 10000 →
    V.slices_siftDownCmpFunc_apiEntry_by_keys_row_1.l10 a0 a1 (hi : Int) (first : Int) (root : Int) d.toList = some (Sort.siftDown ltE hi first root d).toList
  | n, root, d, h, h0, hb, hs => by
    refine V.slices_siftDownCmpFunc_apiEntry_by_keys_row_1.l10.of _ _ _ _ _ _ ?_
    unfold F.slices_siftDownCmpFunc_apiEntry_by_keys_row_1.l10.B Sort.siftDown
    have e2 : w64 (2 * (root : Int)) = ((2 * root : Nat) : Int) := by rw [w64_id (by omega) (by omega)]; omega
    rw [e2, up1 (by omega)]
    by_cases g : 2 * root + 1 ≥ hi
    · rw [if_yes (by omega), dif_pos g]
    · rw [if_no (by omega), dif_neg g, up1 (by omega)]
      cases n with
      | zero => omega
      | succ n =>
      by_cases g2 : 2 * root + 1 + 1 < hi
      · rw [if_yes (by omega), addw (by omega), up1 (by omega)]
        refine (cmpK d (first + (2 * root + 1)) (first + (2 * root + 1) + 1) (by omega) (by omega) _).trans ?_
        rw [cmp_lt]
        refine V.slices_siftDownCmpFunc_apiEntry_by_keys_row_1.j10001101.of _ _ _ _ _ _ _ _ ?_
        unfold F.slices_siftDownCmpFunc_apiEntry_by_keys_row_1.j10001101.B
        rw [up1 (by omega)]
        cases hl : ltE d[first + (2 * root + 1)]! d[first + (2 * root + 1) + 1]! with
        | true =>
          rw [cond_true, if_pos (by simp [g2])]
          refine siftE_go a0 a1 hi first root (2 * root + 1 + 1) d _ (by omega) (by omega) hb hs ?_
          cases hq : ltE d[first + root]! d[first + (2 * root + 1 + 1)]! with
          | true =>
            rw [if_pos rfl, if_neg (by simp [hq]), dif_pos (by omega)]
            exact siftE_l a0 a1 hi first n _ _ (by omega) (by omega) (by rw [swp_sz]; omega) (by rw [swp_sz]; exact hs)
          | false => rw [if_neg (by simp), if_pos (by simp [hq])]
        | false =>
          rw [cond_false, if_neg (by simp)]
          refine siftE_go a0 a1 hi first root (2 * root + 1) d _ (by omega) (by omega) hb hs ?_
          cases hq : ltE d[first + root]! d[first + (2 * root + 1)]! with
          | true =>
            rw [if_pos rfl, if_neg (by simp)]
            exact siftE_l a0 a1 hi first n _ _ (by omega) (by omega) (by rw [swp_sz]; omega) (by rw [swp_sz]; exact hs)
          | false => rw [if_neg (by simp), if_pos (by simp)]
      · rw [if_no (by omega), if_neg (by simp [g2])]
        refine V.slices_siftDownCmpFunc_apiEntry_by_keys_row_1.j10001101.of _ _ _ _ _ _ _ _ ?_
        unfold F.slices_siftDownCmpFunc_apiEntry_by_keys_row_1.j10001101.B
        rw [cond_false]
        refine siftE_go a0 a1 hi first root (2 * root + 1) d _ (by omega) (by omega) hb hs ?_
        cases hq : ltE d[first + root]! d[first + (2 * root + 1)]! with
        | true =>
          rw [if_pos rfl, if_neg (by simp)]
          exact siftE_l a0 a1 hi first n _ _ (by omega) (by omega) (by rw [swp_sz]; omega) (by rw [swp_sz]; exact hs)
        | false => rw [if_neg (by simp), if_pos (by simp)]
theorem siftE_ok (d : Array TEntry) (lo hi first : Nat) (h0 : lo ≤ 10000) (hb : first + hi ≤ d.size) (hs : d.size ≤ 10000) :
    V.slices_siftDownCmpFunc_apiEntry_by_keys_row_1 d.toList (lo : Int) (hi : Int) (first : Int) = some (Sort.siftDown ltE hi first lo d).toList := by
  refine V.slices_siftDownCmpFunc_apiEntry_by_keys_row_1.of _ _ _ _ ?_
  unfold F.slices_siftDownCmpFunc_apiEntry_by_keys_row_1.B
  exact siftE_l _ _ hi first (hi - lo) lo d (Nat.le_refl _) h0 hb hs
theorem heapE_pop (a0 : List TEntry) (a2 : Int) (a : Nat) : ∀ (k : Nat) (d : Array TEntry), a + k ≤ d.size → d.size ≤ 10000 →
    V.slices_heapSortCmpFunc_apiEntry_by_keys_row_1.l111110 a0 (a : Int) a2 ((k : Int) - 1) d.toList = some (Sort.heapPop ltE a k d).toList
  | 0, d, hb, hs => by
    refine V.slices_heapSortCmpFunc_apiEntry_by_keys_row_1.l111110.of _ _ _ _ _ ?_
    unfold F.slices_heapSortCmpFunc_apiEntry_by_keys_row_1.l111110.B Sort.heapPop
    rw [if_no (by omega)]
  | k + 1, d, hb, hs => by
    refine V.slices_heapSortCmpFunc_apiEntry_by_keys_row_1.l111110.of _ _ _ _ _ ?_
    unfold F.slices_heapSortCmpFunc_apiEntry_by_keys_row_1.l111110.B Sort.heapPop
    rw [if_yes (by omega), show (((k + 1 : Nat) : Int) - 1) = (k : Int) by omega, addw (by omega), show w64 ((k : Int) - 1) = (k : Int) - 1 from w64_id (by omega) (by omega)]
    refine (swapK d a (a + k) (by omega) (by omega) (fun L => (V.slices_siftDownCmpFunc_apiEntry_by_keys_row_1 L 0 (k : Int) (a : Int)).bind fun t => V.slices_heapSortCmpFunc_apiEntry_by_keys_row_1.l111110 a0 (a : Int) a2 ((k : Int) - 1) t)).trans ?_
    have := siftE_ok (Sort.swp d a (a + k)) 0 k a (by omega) (by rw [swp_sz]; omega) (by rw [swp_sz]; exact hs)
    show (V.slices_siftDownCmpFunc_apiEntry_by_keys_row_1 (Sort.swp d a (a + k)).toList ((0 : Nat) : Int) (k : Int) (a : Int)).bind _ = _
    rw [this, Option.bind_some]
    have hz : (Sort.siftDown ltE k a 0 (Sort.swp d a (a + k))).size = d.size := by rw [siftE_sz k a _ _ _ (Nat.le_refl _), swp_sz]
    exact heapE_pop a0 a2 a k _ (by omega) (by omega)
theorem heapE_build (a0 : List TEntry) (a b : Nat) (hab : a ≤ b) (r : List TEntry) : ∀ (k : Nat) (d : Array TEntry), k ≤ 10000 → b ≤ d.size → d.size ≤ 10000 → V.slices_heapSortCmpFunc_apiEntry_by_keys_row_1.l111110 a0 (a : Int) (b : Int) (((b - a : Nat) : Int) - 1) (Sort.heapBuild ltE (b - a) a k d).toList = some r →
    V.slices_heapSortCmpFunc_apiEntry_by_keys_row_1.l111010 a0 (a : Int) (b : Int) ((k : Int) - 1) d.toList = some r
  | 0, d, hk, hb, hs, h => by
    refine V.slices_heapSortCmpFunc_apiEntry_by_keys_row_1.l111010.of _ _ _ _ _ ?_
    unfold F.slices_heapSortCmpFunc_apiEntry_by_keys_row_1.l111010.B
    rw [if_no (by omega), subw hab (by omega), show w64 (((b - a : Nat) : Int) - 1) = ((b - a : Nat) : Int) - 1 from w64_id (by omega) (by omega)]
    exact h
  | k + 1, d, hk, hb, hs, h => by
    refine V.slices_heapSortCmpFunc_apiEntry_by_keys_row_1.l111010.of _ _ _ _ _ ?_
    unfold F.slices_heapSortCmpFunc_apiEntry_by_keys_row_1.l111010.B
    rw [if_yes (by omega), show (((k + 1 : Nat) : Int) - 1) = (k : Int) by omega, subw hab (by omega), siftE_ok d k (b - a) a (by omega) (by omega) hs, Option.bind_some, show w64 ((k : Int) - 1) = (k : Int) - 1 from w64_id (by omega) (by omega)]
    have hz : (Sort.siftDown ltE (b - a) a k d).size = d.size := siftE_sz _ a _ _ _ (Nat.le_refl _)
    exact heapE_build a0 a b hab r k _ (by omega) (by omega) (by omega) h
theorem heapBuild_sz (hi first : Nat) : ∀ (k : Nat) (d : Array TEntry), (Sort.heapBuild ltE hi first k d).size = d.size
  | 0, d => rfl
  | k + 1, d => by unfold Sort.heapBuild; rw [heapBuild_sz hi first k, siftE_sz hi first _ _ _ (Nat.le_refl _)]
theorem heapE_ok (d : Array TEntry) (a b : Nat) (hab : a < b) (hb : b ≤ d.size) (hs : d.size ≤ 10000) : V.slices_heapSortCmpFunc_apiEntry_by_keys_row_1 d.toList (a : Int) (b : Int) = some (Sort.heapSort ltE d a b).toList := by
  refine V.slices_heapSortCmpFunc_apiEntry_by_keys_row_1.of _ _ _ ?_
  unfold F.slices_heapSortCmpFunc_apiEntry_by_keys_row_1.B Sort.heapSort
  have e : w64 (Int.tdiv (((b - a - 1 : Nat) : Int)) 2) = (((b - a - 1) / 2 + 1 : Nat) : Int) - 1 := by
    rw [Int.tdiv_eq_ediv_of_nonneg (by omega), w64_id (by omega) (by omega)]; omega
  rw [subw (by omega) (by omega), dn1' (by omega) (by omega), e]
  refine heapE_build _ a b (by omega) _ _ d (by omega) hb hs ?_
  exact heapE_pop _ _ a (b - a) _ (by rw [heapBuild_sz]; omega) (by rw [heapBuild_sz]; exact hs)

/-! ### A range turned round -/

theorem revE_l (a0 : List TEntry) (a1 a2 : Int) : ∀ (n i j : Nat) (d : Array TEntry), j - i ≤ n → j < d.size → d.size ≤ 10000 → V.slices_reverseRangeCmpFunc_apiEntry_by_keys_row_1.l110 a0 a1 a2 (i : Int) (j : Int) d.toList = some (Sort.reverseLoop i j d).toList
  | n, i, j, d, h, hj, hs => by
    refine V.slices_reverseRangeCmpFunc_apiEntry_by_keys_row_1.l110.of _ _ _ _ _ _ ?_
    unfold F.slices_reverseRangeCmpFunc_apiEntry_by_keys_row_1.l110.B Sort.reverseLoop
    by_cases g : i < j
    · rw [if_yes (by omega), if_pos g, up1 (by omega), dn1' (by omega) (by omega)]
      refine (swapK d i j (by omega) hj (fun L => V.slices_reverseRangeCmpFunc_apiEntry_by_keys_row_1.l110 a0 a1 a2 ((i + 1 : Nat) : Int) ((j - 1 : Nat) : Int) L)).trans ?_
      cases n with
      | zero => omega
      | succ n => exact revE_l a0 a1 a2 n (i + 1) (j - 1) _ (by omega) (by rw [swp_sz]; omega) (by rw [swp_sz]; exact hs)
    · rw [if_no (by omega), if_neg g]
theorem revE_ok (d : Array TEntry) (a b : Nat) (hab : a < b) (hb : b ≤ d.size) (hs : d.size ≤ 10000) : V.slices_reverseRangeCmpFunc_apiEntry_by_keys_row_1 d.toList (a : Int) (b : Int) = some (Sort.reverseRange d a b).toList := by
  refine V.slices_reverseRangeCmpFunc_apiEntry_by_keys_row_1.of _ _ _ ?_
  unfold F.slices_reverseRangeCmpFunc_apiEntry_by_keys_row_1.B
  rw [dn1' (by omega) (by omega)]
  exact revE_l _ _ _ _ a (b - 1) d (Nat.le_refl _) (by omega) hs

/-! ### The pivot: one of the range (rows of fewer than 64) -/

theorem order2E (d : Array TEntry) (i j : Nat) (s : Int) (hi : i < d.size) (hj : j < d.size) : ∃ (p q : Nat) (s' : Int), V.slices_order2CmpFunc_apiEntry_by_keys_row_1 d.toList (i : Int) (j : Int) s = some ((p : Int), (q : Int), d.toList, s') ∧ ((p = i ∧ q = j) ∨ (p = j ∧ q = i)) := by
  cases hl : ltE d[j]! d[i]! with
  | true =>
    refine ⟨j, i, w64 (s + 1), V.slices_order2CmpFunc_apiEntry_by_keys_row_1.of _ _ _ _ ?_, .inr ⟨rfl, rfl⟩⟩
    unfold F.slices_order2CmpFunc_apiEntry_by_keys_row_1.B
    refine (cmpK d j i hj hi _).trans ?_
    rw [cmp_lt, hl, cond_true]
  | false =>
    refine ⟨i, j, s, V.slices_order2CmpFunc_apiEntry_by_keys_row_1.of _ _ _ _ ?_, .inl ⟨rfl, rfl⟩⟩
    unfold F.slices_order2CmpFunc_apiEntry_by_keys_row_1.B
    refine (cmpK d j i hj hi _).trans ?_
    rw [cmp_lt, hl, cond_false]
theorem medianE (d : Array TEntry) (i j k : Nat) (s : Int) (hi : i < d.size) (hj : j < d.size) (hk : k < d.size) : ∃ (p : Nat) (s' : Int), V.slices_medianCmpFunc_apiEntry_by_keys_row_1 d.toList (i : Int) (j : Int) (k : Int) s = some ((p : Int), d.toList, s') ∧ (p = i ∨ p = j ∨ p = k) := by
  obtain ⟨p1, q1, s1, h1, g1⟩ := order2E d i j s hi hj
  obtain ⟨p2, q2, s2, h2, g2⟩ := order2E d q1 k s1 (by omega) hk
  obtain ⟨p3, q3, s3, h3, g3⟩ := order2E d p1 p2 s2 (by omega) (by omega)
  refine ⟨q3, s3, V.slices_medianCmpFunc_apiEntry_by_keys_row_1.of _ _ _ _ _ ?_, by omega⟩
  unfold F.slices_medianCmpFunc_apiEntry_by_keys_row_1.B
  rw [h1, Option.bind_some]
  dsimp only
  rw [h2, Option.bind_some]
  dsimp only
  rw [h3, Option.bind_some]
theorem adjE (d : Array TEntry) (i : Nat) (s : Int) (h0 : 0 < i) (hi : i + 1 < d.size) (hs : d.size ≤ 10000) : ∃ (p : Nat) (s' : Int), V.slices_medianAdjacentCmpFunc_apiEntry_by_keys_row_1 d.toList (i : Int) s = some ((p : Int), d.toList, s') ∧ i - 1 ≤ p ∧ p ≤ i + 1 := by
  obtain ⟨p, s', h1, h2⟩ := medianE d (i - 1) i (i + 1) s (by omega) (by omega) hi
  refine ⟨p, s', ?_, by omega, by omega⟩
  apply V.slices_medianAdjacentCmpFunc_apiEntry_by_keys_row_1.of
  unfold F.slices_medianAdjacentCmpFunc_apiEntry_by_keys_row_1.B
  rw [dn1' (by omega) h0, up1 (by omega), h1, Option.bind_some]
theorem pivotE (d : Array TEntry) (a b : Nat) (h8 : 8 ≤ b - a) (h64 : b - a < 64) (hb : b ≤ d.size) (hs : d.size ≤ 10000) : ∃ (p : Nat) (t : Int), V.slices_choosePivotCmpFunc_apiEntry_by_keys_row_1 d.toList (a : Int) (b : Int) = some ((p : Int), t, d.toList) ∧ a ≤ p ∧ p < b := by
  have q : ∀ n : Nat, n ≤ 3 → w64 ((a : Int) + w64 (w64 (Int.tdiv ((b - a : Nat) : Int) 4) * (n : Int))) = ((a + (b - a) / 4 * n : Nat) : Int) := fun n hn => by
    have e1 : w64 (Int.tdiv ((b - a : Nat) : Int) 4) = (((b - a) / 4 : Nat) : Int) := by
      rw [Int.tdiv_eq_ediv_of_nonneg (by omega), w64_id (by omega) (by omega)]; omega
    have hm : (b - a) / 4 * n ≤ 15 * 3 := Nat.mul_le_mul (by omega) hn
    rw [e1, show ((((b - a) / 4 : Nat) : Int) * (n : Int)) = (((b - a) / 4 * n : Nat) : Int) by push_cast; rfl, w64_id (x := (((b - a) / 4 * n : Nat) : Int)) (by omega) (by omega), addw (by omega)]
  have key : ∃ (p : Nat) (t : Int), F.slices_choosePivotCmpFunc_apiEntry_by_keys_row_1.B V.slices_medianAdjacentCmpFunc_apiEntry_by_keys_row_1 V.slices_medianCmpFunc_apiEntry_by_keys_row_1 d.toList (a : Int) (b : Int) = some ((p : Int), t, d.toList) ∧ a ≤ p ∧ p < b := by
    unfold F.slices_choosePivotCmpFunc_apiEntry_by_keys_row_1.B
    rw [subw (by omega) (by omega), if_yes (by omega)]
    rw [show w64 ((a : Int) + w64 (w64 (Int.tdiv ((b - a : Nat) : Int) 4) * 1)) = _ from q 1 (by omega), show w64 ((a : Int) + w64 (w64 (Int.tdiv ((b - a : Nat) : Int) 4) * 2)) = _ from q 2 (by omega), show w64 ((a : Int) + w64 (w64 (Int.tdiv ((b - a : Nat) : Int) 4) * 3)) = _ from q 3 (by omega)]
    have fin : ∀ (p : Nat) (s : Int), a ≤ p → p < b → ∃ (p' : Nat) (t : Int), (bif (s == 0) then (some ((p : Int), (1 : Int), d.toList)) else (bif (s == 12) then (some ((p : Int), 2, d.toList)) else (some ((p : Int), 0, d.toList)))) = some ((p' : Int), t, d.toList) ∧ a ≤ p' ∧ p' < b := fun p s h1 h2 => by
      cases h3 : (s == 0) with
      | true => exact ⟨p, 1, by simp, h1, h2⟩
      | false =>
        cases h4 : (s == 12) with
        | true => exact ⟨p, 2, by simp, h1, h2⟩
        | false => exact ⟨p, 0, by simp, h1, h2⟩
    by_cases g : b - a ≥ 50
    · obtain ⟨p1, s1, e1, f1, f1'⟩ := adjE d (a + (b - a) / 4 * 1) 0 (by omega) (by omega) hs
      obtain ⟨p2, s2, e2, f2, f2'⟩ := adjE d (a + (b - a) / 4 * 2) s1 (by omega) (by omega) hs
      obtain ⟨p3, s3, e3, f3, f3'⟩ := adjE d (a + (b - a) / 4 * 3) s2 (by omega) (by omega) hs
      obtain ⟨p, s, h1, h2⟩ := medianE d p1 p2 p3 s3 (by omega) (by omega) (by omega)
      rw [if_yes (by omega), e1, Option.bind_some]
      dsimp only
      rw [e2, Option.bind_some]
      dsimp only
      rw [e3, Option.bind_some]
      dsimp only
      rw [h1, Option.bind_some]
      dsimp only
      exact fin p s (by omega) (by omega)
    · obtain ⟨p, s, h1, h2⟩ := medianE d (a + (b - a) / 4 * 1) (a + (b - a) / 4 * 2) (a + (b - a) / 4 * 3) 0 (by omega) (by omega) (by omega)
      rw [if_no (by omega), h1, Option.bind_some]
      dsimp only
      exact fin p s (by omega) (by omega)
  obtain ⟨p, t, ht, h1, h2⟩ := key
  refine ⟨p, t, V.slices_choosePivotCmpFunc_apiEntry_by_keys_row_1.of _ _ _ ht, h1, h2⟩

end Go.Proofs.Ytdblhdpnllckhaa.AE
end
section
set_option linter.unusedVariables false
set_option linter.unusedSimpArgs false
set_option maxRecDepth 20000
namespace Go.Proofs.Ytdblhdpnllckhaa.AE
open Go

theorem swoE : Sort.SWO ltE where
  irrefl := fun x => lt_irr x.1
  trans := fun x y z h g => lt_trans h g
  ntrans := fun x y z h g => by
    cases hc : ltE x z with
    | false => rfl
    | true =>
      exfalso
      by_cases e : x.1 = y.1
      · rw [show ltE x z = strLt x.1 z.1 from rfl, e] at hc
        rw [show ltE y z = strLt y.1 z.1 from rfl, hc] at g; cases g
      · have h1 : strLt y.1 x.1 = true := lt_total h e
        have h2 : strLt y.1 z.1 = true := lt_trans h1 hc
        rw [show ltE y z = strLt y.1 z.1 from rfl, h2] at g; cases g

/-! ### The insertion that gives up -/

theorem partialE_scan (a0 : List TEntry) (a1 : Int) (b : Nat) (x1 : Int) (d : Array TEntry) (r : Bool × List TEntry) (hb : b ≤ d.size) (hs : d.size ≤ 10000) : ∀ (k x : Nat), x + k = b → 0 < x → V.slices_partialInsertionSortCmpFunc_apiEntry_by_keys_row_1.j1101001001 a0 a1 (b : Int) ((Sort.scanSorted ltE d b x : Nat) : Int) x1 d.toList = some r →
    V.slices_partialInsertionSortCmpFunc_apiEntry_by_keys_row_1.l11010010000 a0 a1 (b : Int) (x : Int) x1 d.toList = some r
  | k, x, hx, h0, h => by
    apply V.slices_partialInsertionSortCmpFunc_apiEntry_by_keys_row_1.l11010010000.of
    unfold F.slices_partialInsertionSortCmpFunc_apiEntry_by_keys_row_1.l11010010000.B
    rw [Sort.scanSorted] at h
    by_cases g : x < b
    · rw [if_yes (by omega), dn1' (by omega) h0]
      refine (cmpK d x (x - 1) (by omega) (by omega) _).trans ?_
      rw [cmp_lt]
      apply V.slices_partialInsertionSortCmpFunc_apiEntry_by_keys_row_1.j11010010000001.of
      unfold F.slices_partialInsertionSortCmpFunc_apiEntry_by_keys_row_1.j11010010000001.B
      cases hl : ltE d[x]! d[x - 1]! with
      | true =>
        rw [Bool.not_true, cond_false]
        rw [if_neg (by simp [hl])] at h
        exact h
      | false =>
        rw [Bool.not_false, cond_true, up1 (by omega)]
        rw [if_pos (by simp [hl, g])] at h
        cases k with
        | zero => omega
        | succ k => exact partialE_scan a0 a1 b x1 d r hb hs k (x + 1) (by omega) (by omega) h
    · rw [if_no (by omega)]
      rw [if_neg (by simp [g])] at h
      apply V.slices_partialInsertionSortCmpFunc_apiEntry_by_keys_row_1.j11010010000001.of
      unfold F.slices_partialInsertionSortCmpFunc_apiEntry_by_keys_row_1.j11010010000001.B
      exact h
theorem scanS_in (b : Nat) (d : Array TEntry) : ∀ (k x : Nat), x + k = b → x ≤ Sort.scanSorted ltE d b x ∧ Sort.scanSorted ltE d b x ≤ b
  | k, x, hx => by
    rw [Sort.scanSorted]
    split
    · rename_i g
      simp only [Bool.and_eq_true, decide_eq_true_eq] at g
      cases k with
      | zero => omega
      | succ k => have := scanS_in b d k (x + 1) (by omega); omega
    · omega
theorem shDn_sz : ∀ (j : Nat) (d : Array TEntry), (Sort.shiftDown ltE j d).size = d.size
  | 0, d => rfl
  | j + 1, d => by
    unfold Sort.shiftDown
    split
    · rfl
    · rw [shDn_sz j, swp_sz]
theorem shUp_sz (b : Nat) : ∀ (k j : Nat) (d : Array TEntry), b - j ≤ k → (Sort.shiftUp ltE b j d).size = d.size
  | k, j, d, h => by
    rw [Sort.shiftUp]
    split
    · split
      · rfl
      · cases k with
        | zero => omega
        | succ k => rw [shUp_sz b k (j + 1) _ (by omega), swp_sz]
    · rfl
theorem shDnE (a0 : List TEntry) (a1 a2 x0 x1 : Int) (r : Bool × List TEntry) : ∀ (j : Nat) (d : Array TEntry), j < d.size → d.size ≤ 10000 → V.slices_partialInsertionSortCmpFunc_apiEntry_by_keys_row_1.j11010010011111 a0 a1 a2 x0 x1 (Sort.shiftDown ltE j d).toList = some r →
    V.slices_partialInsertionSortCmpFunc_apiEntry_by_keys_row_1.l110100100111101010 a0 a1 a2 x0 x1 (j : Int) d.toList = some r
  | 0, d, hj, hs, h => by
    apply V.slices_partialInsertionSortCmpFunc_apiEntry_by_keys_row_1.l110100100111101010.of
    unfold F.slices_partialInsertionSortCmpFunc_apiEntry_by_keys_row_1.l110100100111101010.B
    rw [if_no (by omega)]
    exact h
  | j + 1, d, hj, hs, h => by
    apply V.slices_partialInsertionSortCmpFunc_apiEntry_by_keys_row_1.l110100100111101010.of
    unfold F.slices_partialInsertionSortCmpFunc_apiEntry_by_keys_row_1.l110100100111101010.B
    unfold Sort.shiftDown at h
    rw [if_yes (by omega), dn1 (by omega)]
    refine (cmpK d (j + 1) j hj (by omega) _).trans ?_
    rw [cmp_lt]
    cases hl : ltE d[j + 1]! d[j]! with
    | false =>
      rw [hl] at h
      rw [Bool.not_false, cond_true]
      exact h
    | true =>
      rw [hl] at h
      rw [Bool.not_true, cond_false]
      refine (swapK d (j + 1) j hj (by omega) (fun L => V.slices_partialInsertionSortCmpFunc_apiEntry_by_keys_row_1.j110100100111101010011 a0 a1 a2 x0 x1 ((j + 1 : Nat) : Int) L)).trans ?_
      apply V.slices_partialInsertionSortCmpFunc_apiEntry_by_keys_row_1.j110100100111101010011.of
      unfold F.slices_partialInsertionSortCmpFunc_apiEntry_by_keys_row_1.j110100100111101010011.B
      rw [dn1 (by omega)]
      exact shDnE a0 a1 a2 x0 x1 r j _ (by rw [swp_sz]; omega) (by rw [swp_sz]; exact hs) h
theorem shUpE (a0 : List TEntry) (a1 x0 x1 : Int) (b : Nat) (r : Bool × List TEntry) : ∀ (k j : Nat) (d : Array TEntry), b - j ≤ k → 0 < j → j ≤ 20000 → b ≤ d.size → d.size ≤ 10000 → V.slices_partialInsertionSortCmpFunc_apiEntry_by_keys_row_1.j11010011 a0 a1 (b : Int) x0 x1 (Sort.shiftUp ltE b j d).toList = some r →
    V.slices_partialInsertionSortCmpFunc_apiEntry_by_keys_row_1.l110100100111111010 a0 a1 (b : Int) x0 x1 (j : Int) d.toList = some r
  | k, j, d, hk, h0, hj, hb, hs, h => by
    apply V.slices_partialInsertionSortCmpFunc_apiEntry_by_keys_row_1.l110100100111111010.of
    unfold F.slices_partialInsertionSortCmpFunc_apiEntry_by_keys_row_1.l110100100111111010.B
    rw [Sort.shiftUp] at h
    by_cases g : j < b
    · rw [if_pos g] at h
      rw [if_yes (by omega), dn1' (by omega) h0]
      refine (cmpK d j (j - 1) (by omega) (by omega) _).trans ?_
      rw [cmp_lt]
      cases hl : ltE d[j]! d[j - 1]! with
      | false =>
        rw [hl] at h
        rw [Bool.not_false, cond_true]
        exact h
      | true =>
        rw [hl] at h
        rw [Bool.not_true, cond_false]
        refine (swapK d j (j - 1) (by omega) (by omega) (fun L => V.slices_partialInsertionSortCmpFunc_apiEntry_by_keys_row_1.j110100100111111010011 a0 a1 (b : Int) x0 x1 (j : Int) L)).trans ?_
        apply V.slices_partialInsertionSortCmpFunc_apiEntry_by_keys_row_1.j110100100111111010011.of
        unfold F.slices_partialInsertionSortCmpFunc_apiEntry_by_keys_row_1.j110100100111111010011.B
        rw [up1 (by omega)]
        cases k with
        | zero => omega
        | succ k => exact shUpE a0 a1 x0 x1 b r k (j + 1) _ (by omega) (by omega) (by omega) (by rw [swp_sz]; exact hb) (by rw [swp_sz]; exact hs) h
    · rw [if_neg g] at h
      rw [if_no (by omega)]
      exact h
theorem partialE_l (a0 : List TEntry) (a b : Nat) (hb' : b ≤ 10000) : ∀ (s x1 i : Nat) (d : Array TEntry), x1 + s = 5 → a < i → i ≤ b → b ≤ d.size → d.size ≤ 10000 →
    V.slices_partialInsertionSortCmpFunc_apiEntry_by_keys_row_1.l11010 a0 (a : Int) (b : Int) (i : Int) (x1 : Int) d.toList = some ((Sort.partialIns ltE a b s i d).2, (Sort.partialIns ltE a b s i d).1.toList)
  | 0, x1, i, d, hx, hai, hib, hb, hs => by
    apply V.slices_partialInsertionSortCmpFunc_apiEntry_by_keys_row_1.l11010.of
    unfold F.slices_partialInsertionSortCmpFunc_apiEntry_by_keys_row_1.l11010.B
    rw [if_no (by omega)]
    rfl
  | s + 1, x1, i, d, hx, hai, hib, hb, hs => by
    have sc := scanS_in b d (b - i) i (by omega)
    apply V.slices_partialInsertionSortCmpFunc_apiEntry_by_keys_row_1.l11010.of
    unfold F.slices_partialInsertionSortCmpFunc_apiEntry_by_keys_row_1.l11010.B
    rw [if_yes (by omega)]
    refine partialE_scan a0 _ b _ d _ hb hs (b - i) i (by omega) (by omega) ?_
    rw [Sort.partialIns_succ]
    generalize Sort.scanSorted ltE d b i = c at sc ⊢
    apply V.slices_partialInsertionSortCmpFunc_apiEntry_by_keys_row_1.j1101001001.of
    unfold F.slices_partialInsertionSortCmpFunc_apiEntry_by_keys_row_1.j1101001001.B
    by_cases g : c = b
    · rw [if_pos g, show ((c : Int) == (b : Int)) = true by simp [g], cond_true]
    · rw [if_neg g, show ((c : Int) == (b : Int)) = false by simp; omega, cond_false]
      apply V.slices_partialInsertionSortCmpFunc_apiEntry_by_keys_row_1.j11010010011.of
      unfold F.slices_partialInsertionSortCmpFunc_apiEntry_by_keys_row_1.j11010010011.B
      rw [subw (by omega) (by omega)]
      by_cases g5 : b - a < 50
      · rw [if_pos g5, if_yes (by omega)]
      · rw [if_neg g5, if_no (by omega)]
        apply V.slices_partialInsertionSortCmpFunc_apiEntry_by_keys_row_1.j110100100111.of
        unfold F.slices_partialInsertionSortCmpFunc_apiEntry_by_keys_row_1.j110100100111.B
        rw [dn1' (by omega) (by omega)]
        refine (swapK d c (c - 1) (by omega) (by omega) (fun L => V.slices_partialInsertionSortCmpFunc_apiEntry_by_keys_row_1.j1101001001111 a0 (a : Int) (b : Int) (c : Int) (x1 : Int) L)).trans ?_
        have z1 : (Sort.swp d c (c - 1)).size = d.size := swp_sz _ _ _
        generalize Sort.swp d c (c - 1) = d1 at z1 ⊢
        have last : ∀ d2 : Array TEntry, d2.size = d.size → V.slices_partialInsertionSortCmpFunc_apiEntry_by_keys_row_1.j11010010011111 a0 (a : Int) (b : Int) (c : Int) (x1 : Int) d2.toList = some ((Sort.partialIns ltE a b s c (if b - c ≥ 2 then Sort.shiftUp ltE b (c + 1) d2 else d2)).2, (Sort.partialIns ltE a b s c (if b - c ≥ 2 then Sort.shiftUp ltE b (c + 1) d2 else d2)).1.toList) := fun d2 z2 => by
          have fin : ∀ d3 : Array TEntry, d3.size = d.size → V.slices_partialInsertionSortCmpFunc_apiEntry_by_keys_row_1.j11010011 a0 (a : Int) (b : Int) (c : Int) (x1 : Int) d3.toList = some ((Sort.partialIns ltE a b s c d3).2, (Sort.partialIns ltE a b s c d3).1.toList) := fun d3 z3 => by
            apply V.slices_partialInsertionSortCmpFunc_apiEntry_by_keys_row_1.j11010011.of
            unfold F.slices_partialInsertionSortCmpFunc_apiEntry_by_keys_row_1.j11010011.B
            rw [up1 (by omega)]
            exact partialE_l a0 a b hb' s (x1 + 1) c d3 (by omega) (by omega) (by omega) (by omega) (by omega)
          apply V.slices_partialInsertionSortCmpFunc_apiEntry_by_keys_row_1.j11010010011111.of
          unfold F.slices_partialInsertionSortCmpFunc_apiEntry_by_keys_row_1.j11010010011111.B
          rw [subw (by omega) (by omega)]
          by_cases q : b - c ≥ 2
          · rw [if_yes (by omega), if_pos q, up1 (by omega)]
            exact shUpE a0 _ _ _ b _ (b - (c + 1)) (c + 1) d2 (Nat.le_refl _) (by omega) (by omega) (by omega) (by omega) (fin _ (by rw [shUp_sz b _ _ _ (Nat.le_refl _)]; exact z2))
          · rw [if_no (by omega), if_neg q]
            exact fin d2 z2
        apply V.slices_partialInsertionSortCmpFunc_apiEntry_by_keys_row_1.j1101001001111.of
        unfold F.slices_partialInsertionSortCmpFunc_apiEntry_by_keys_row_1.j1101001001111.B
        rw [subw (by omega) (by omega)]
        by_cases q : c - a ≥ 2
        · rw [if_yes (by omega), dn1' (by omega) (by omega)]
          rw [show Sort.fixDown ltE a c d1 = Sort.shiftDown ltE (c - 1) d1 from if_pos q]
          exact shDnE a0 _ _ _ _ _ (c - 1) d1 (by omega) (by omega) (last _ (by rw [shDn_sz]; exact z1))
        · rw [if_no (by omega)]
          rw [show Sort.fixDown ltE a c d1 = d1 from if_neg q]
          exact last d1 z1
theorem partialE (d : Array TEntry) (a b : Nat) (hab : a < b) (hb : b ≤ d.size) (hs : d.size ≤ 10000) :
    V.slices_partialInsertionSortCmpFunc_apiEntry_by_keys_row_1 d.toList (a : Int) (b : Int) = some ((Sort.partialInsertionSort ltE d a b).2, (Sort.partialInsertionSort ltE d a b).1.toList) := by
  apply V.slices_partialInsertionSortCmpFunc_apiEntry_by_keys_row_1.of
  unfold F.slices_partialInsertionSortCmpFunc_apiEntry_by_keys_row_1.B
  rw [up1 (by omega)]
  exact partialE_l _ a b (by omega) 5 0 (a + 1) d (by omega) (by omega) (by omega) hb hs

/-! ### Those equal to the pivot -/

theorem peE_up (a0 : List TEntry) (a2 a3 : Int) (a j : Nat) (d : Array TEntry) (r : Int × List TEntry) (ha : a < d.size) (hj : j < d.size) (hs : d.size ≤ 10000) : ∀ (n i : Nat), j + 1 - i ≤ n → i ≤ 20000 →
    V.slices_partitionEqualCmpFunc_apiEntry_by_keys_row_1.l1110000100 a0 (a : Int) a2 a3 ((Sort.scanUp (fun x => !ltE d[a]! x) d j i : Nat) : Int) (j : Int) d.toList = some r → V.slices_partitionEqualCmpFunc_apiEntry_by_keys_row_1.l111000000 a0 (a : Int) a2 a3 (i : Int) (j : Int) d.toList = some r
  | n, i, hn, hi, h => by
    apply V.slices_partitionEqualCmpFunc_apiEntry_by_keys_row_1.l111000000.of
    unfold F.slices_partitionEqualCmpFunc_apiEntry_by_keys_row_1.l111000000.B
    rw [Sort.scanUp] at h
    by_cases g : i ≤ j
    · rw [if_yes (by omega)]
      refine (cmpK d a i ha (by omega) _).trans ?_
      rw [cmp_lt]
      cases hl : ltE d[a]! d[i]! with
      | true =>
        rw [Bool.not_true, cond_false]
        rw [if_neg (by simp [hl])] at h
        exact h
      | false =>
        rw [Bool.not_false, cond_true, up1 (by omega)]
        rw [if_pos (by simp [hl, g])] at h
        cases n with
        | zero => omega
        | succ n => exact peE_up a0 a2 a3 a j d r ha hj hs n (i + 1) (by omega) (by omega) h
    · rw [if_no (by omega)]
      rw [if_neg (by simp [g])] at h
      exact h
theorem peE_down (a0 : List TEntry) (a2 a3 : Int) (a i : Nat) (d : Array TEntry) (r : Int × List TEntry) (ha : a < d.size) (h0 : 0 < i) (hi : i ≤ 20000) (hs : d.size ≤ 10000) : ∀ (j : Nat), j < d.size →
    (if i > Sort.scanDown (fun x => ltE d[a]! x) d i j then r = ((i : Int), d.toList) else V.slices_partitionEqualCmpFunc_apiEntry_by_keys_row_1.l11100 a0 (a : Int) a2 a3 ((i + 1 : Nat) : Int) ((Sort.scanDown (fun x => ltE d[a]! x) d i j - 1 : Nat) : Int) (Sort.swp d i (Sort.scanDown (fun x => ltE d[a]! x) d i j)).toList = some r) →
    V.slices_partitionEqualCmpFunc_apiEntry_by_keys_row_1.l1110000100 a0 (a : Int) a2 a3 (i : Int) (j : Int) d.toList = some r
  | 0, hj, h => by
    apply V.slices_partitionEqualCmpFunc_apiEntry_by_keys_row_1.l1110000100.of
    unfold F.slices_partitionEqualCmpFunc_apiEntry_by_keys_row_1.l1110000100.B
    rw [Sort.scanDown, if_pos (by omega)] at h
    rw [if_no (by omega), if_yes (by omega), h]
  | j + 1, hj, h => by
    apply V.slices_partitionEqualCmpFunc_apiEntry_by_keys_row_1.l1110000100.of
    unfold F.slices_partitionEqualCmpFunc_apiEntry_by_keys_row_1.l1110000100.B
    rw [Sort.scanDown] at h
    by_cases g : i ≤ j + 1
    · rw [if_yes (by omega)]
      refine (cmpK d a (j + 1) ha hj _).trans ?_
      rw [cmp_lt]
      cases hl : ltE d[a]! d[j + 1]! with
      | true =>
        rw [if_pos (by simp [hl, g] : (decide (i ≤ j + 1) && ltE d[a]! d[j + 1]!) = true)] at h
        rw [cond_true, dn1 (by omega)]
        exact peE_down a0 a2 a3 a i d r ha h0 hi hs j (by omega) h
      | false =>
        rw [if_neg (by simp [hl] : ¬ (decide (i ≤ j + 1) && ltE d[a]! d[j + 1]!) = true), if_neg (by omega)] at h
        rw [cond_false, if_no (by omega), up1 (by omega), dn1 (by omega)]
        refine (swapK d i (j + 1) (by omega) hj (fun L => V.slices_partitionEqualCmpFunc_apiEntry_by_keys_row_1.l11100 a0 (a : Int) a2 a3 ((i + 1 : Nat) : Int) (j : Int) L)).trans ?_
        exact h
    · rw [if_neg (by simp; omega : ¬ (decide (i ≤ j + 1) && ltE d[a]! d[j + 1]!) = true), if_pos (by omega)] at h
      rw [if_no (by omega), if_yes (by omega), h]
theorem peE_loop (a0 : List TEntry) (a2 a3 : Int) (a : Nat) : ∀ (n i j : Nat) (d : Array TEntry), j + 1 - i ≤ n → 0 < i → i ≤ 20000 → a < d.size → j < d.size → d.size ≤ 10000 →
    V.slices_partitionEqualCmpFunc_apiEntry_by_keys_row_1.l11100 a0 (a : Int) a2 a3 (i : Int) (j : Int) d.toList = some (((Sort.partEqLoop ltE a i j d).1 : Int), (Sort.partEqLoop ltE a i j d).2.toList)
  | n, i, j, d, hn, h0, hi, ha, hj, hs => by
    apply V.slices_partitionEqualCmpFunc_apiEntry_by_keys_row_1.l11100.of
    unfold F.slices_partitionEqualCmpFunc_apiEntry_by_keys_row_1.l11100.B
    have u := Sort.scanUp_spec (fun x => !ltE d[a]! x) d j _ i rfl
    have dn := Sort.scanDown_le (fun x => ltE d[a]! x) d (Sort.scanUp (fun x => !ltE d[a]! x) d j i) j
    have ui : Sort.scanUp (fun x => !ltE d[a]! x) d j i ≤ 20000 := by
      rcases Nat.lt_or_ge (j + 1) i with g | g
      · rw [Sort.scanUp, if_neg (by simp; omega)]; exact hi
      · have := u.2.1 g; omega
    have pg := Sort.partEqLoop_guard ltE a i j d
    rw [Sort.partEqLoop_eq]
    refine peE_up a0 a2 a3 a j d _ ha hj hs (j + 1 - i) i (Nat.le_refl _) hi ?_
    refine peE_down a0 a2 a3 a _ d _ ha (by omega) ui hs j hj ?_
    split
    · rename_i g
      first | rfl | simp only [if_pos g]
    · rename_i g
      try simp only [if_neg g]
      have pg := pg g
      cases n with
      | zero => omega
      | succ n => exact peE_loop a0 a2 a3 a n _ _ _ (by omega) (by omega) (by omega) (by rw [swp_sz]; exact ha) (by rw [swp_sz]; omega) (by rw [swp_sz]; exact hs)
theorem peE (d : Array TEntry) (a b p : Nat) (hap : a ≤ p) (hpb : p < b) (hb : b ≤ d.size) (hs : d.size ≤ 10000) :
    V.slices_partitionEqualCmpFunc_apiEntry_by_keys_row_1 d.toList (a : Int) (b : Int) (p : Int) = some (((Sort.partitionEqual ltE d a b p).1 : Int), (Sort.partitionEqual ltE d a b p).2.toList) := by
  apply V.slices_partitionEqualCmpFunc_apiEntry_by_keys_row_1.of
  unfold F.slices_partitionEqualCmpFunc_apiEntry_by_keys_row_1.B
  rw [up1 (by omega), dn1' (by omega) (by omega)]
  refine (swapK d a p (by omega) (by omega) (fun L => V.slices_partitionEqualCmpFunc_apiEntry_by_keys_row_1.l11100 d.toList (a : Int) (b : Int) (p : Int) ((a + 1 : Nat) : Int) ((b - 1 : Nat) : Int) L)).trans ?_
  exact peE_loop _ _ _ a _ (a + 1) (b - 1) _ (Nat.le_refl _) (by omega) (by omega) (by rw [swp_sz]; omega) (by rw [swp_sz]; omega) (by rw [swp_sz]; exact hs)

/-! ### The two sides of the pivot -/

theorem ptE_up (a0 : List TEntry) (a2 a3 : Int) (a j : Nat) (d : Array TEntry) (r : Int × Bool × List TEntry) (ha : a < d.size) (hj : j < d.size) (hs : d.size ≤ 10000) : ∀ (n i : Nat), j + 1 - i ≤ n → i ≤ 20000 →
    V.slices_partitionCmpFunc_apiEntry_by_keys_row_1.l1111111110000100 a0 (a : Int) a2 a3 ((Sort.scanUp (fun x => ltE x d[a]!) d j i : Nat) : Int) (j : Int) d.toList = some r → V.slices_partitionCmpFunc_apiEntry_by_keys_row_1.l111111111000000 a0 (a : Int) a2 a3 (i : Int) (j : Int) d.toList = some r
  | n, i, hn, hi, h => by
    apply V.slices_partitionCmpFunc_apiEntry_by_keys_row_1.l111111111000000.of
    unfold F.slices_partitionCmpFunc_apiEntry_by_keys_row_1.l111111111000000.B
    rw [Sort.scanUp] at h
    by_cases g : i ≤ j
    · rw [if_yes (by omega)]
      refine (cmpK d i a (by omega) ha _).trans ?_
      rw [cmp_lt]
      apply V.slices_partitionCmpFunc_apiEntry_by_keys_row_1.j111111111000000001.of
      unfold F.slices_partitionCmpFunc_apiEntry_by_keys_row_1.j111111111000000001.B
      cases hl : ltE d[i]! d[a]! with
      | false =>
        rw [cond_false]
        rw [if_neg (by simp [hl])] at h
        apply V.slices_partitionCmpFunc_apiEntry_by_keys_row_1.j11111111100001.of
        exact h
      | true =>
        rw [cond_true, up1 (by omega)]
        rw [if_pos (by simp [hl, g])] at h
        cases n with
        | zero => omega
        | succ n => exact ptE_up a0 a2 a3 a j d r ha hj hs n (i + 1) (by omega) (by omega) h
    · rw [if_no (by omega)]
      rw [if_neg (by simp [g])] at h
      apply V.slices_partitionCmpFunc_apiEntry_by_keys_row_1.j111111111000000001.of
      unfold F.slices_partitionCmpFunc_apiEntry_by_keys_row_1.j111111111000000001.B
      rw [cond_false]
      apply V.slices_partitionCmpFunc_apiEntry_by_keys_row_1.j11111111100001.of
      exact h
theorem ptE_down (a0 : List TEntry) (a2 a3 : Int) (a i : Nat) (d : Array TEntry) (r : Int × Bool × List TEntry) (ha : a < d.size) (h0 : 0 < i) (hi : i ≤ 20000) (hs : d.size ≤ 10000) : ∀ (j : Nat), j < d.size →
    V.slices_partitionCmpFunc_apiEntry_by_keys_row_1.j111111111000011 a0 (a : Int) a2 a3 (i : Int) ((Sort.scanDown (fun x => !ltE x d[a]!) d i j : Nat) : Int) d.toList = some r →
    V.slices_partitionCmpFunc_apiEntry_by_keys_row_1.l1111111110000100 a0 (a : Int) a2 a3 (i : Int) (j : Int) d.toList = some r
  | 0, hj, h => by
    apply V.slices_partitionCmpFunc_apiEntry_by_keys_row_1.l1111111110000100.of
    unfold F.slices_partitionCmpFunc_apiEntry_by_keys_row_1.l1111111110000100.B
    rw [Sort.scanDown] at h
    rw [if_no (by omega)]
    apply V.slices_partitionCmpFunc_apiEntry_by_keys_row_1.j1111111110000100001.of
    unfold F.slices_partitionCmpFunc_apiEntry_by_keys_row_1.j1111111110000100001.B
    exact h
  | j + 1, hj, h => by
    apply V.slices_partitionCmpFunc_apiEntry_by_keys_row_1.l1111111110000100.of
    unfold F.slices_partitionCmpFunc_apiEntry_by_keys_row_1.l1111111110000100.B
    rw [Sort.scanDown] at h
    by_cases g : i ≤ j + 1
    · rw [if_yes (by omega)]
      refine (cmpK d (j + 1) a hj ha _).trans ?_
      rw [cmp_lt]
      apply V.slices_partitionCmpFunc_apiEntry_by_keys_row_1.j1111111110000100001.of
      unfold F.slices_partitionCmpFunc_apiEntry_by_keys_row_1.j1111111110000100001.B
      cases hl : ltE d[j + 1]! d[a]! with
      | false =>
        rw [if_pos (by simp [hl, g])] at h
        rw [Bool.not_false, cond_true, dn1 (by omega)]
        exact ptE_down a0 a2 a3 a i d r ha h0 hi hs j (by omega) h
      | true =>
        rw [if_neg (by simp [hl])] at h
        exact h
    · rw [if_neg (by simp; omega)] at h
      rw [if_no (by omega)]
      apply V.slices_partitionCmpFunc_apiEntry_by_keys_row_1.j1111111110000100001.of
      unfold F.slices_partitionCmpFunc_apiEntry_by_keys_row_1.j1111111110000100001.B
      exact h
theorem ptE_loop (a0 : List TEntry) (a2 a3 : Int) (a : Nat) : ∀ (n i j : Nat) (d : Array TEntry), j + 1 - i ≤ n → 0 < i → i ≤ 20000 → a < d.size → j < d.size → d.size ≤ 10000 →
    V.slices_partitionCmpFunc_apiEntry_by_keys_row_1.l11111111100 a0 (a : Int) a2 a3 (i : Int) (j : Int) d.toList = some (((Sort.partLoop ltE a i j d).1 : Int), false, (Sort.swp (Sort.partLoop ltE a i j d).2 (Sort.partLoop ltE a i j d).1 a).toList)
  | n, i, j, d, hn, h0, hi, ha, hj, hs => by
    apply V.slices_partitionCmpFunc_apiEntry_by_keys_row_1.l11111111100.of
    unfold F.slices_partitionCmpFunc_apiEntry_by_keys_row_1.l11111111100.B
    have u := Sort.scanUp_spec (fun x => ltE x d[a]!) d j _ i rfl
    have dn := Sort.scanDown_le (fun x => !ltE x d[a]!) d (Sort.scanUp (fun x => ltE x d[a]!) d j i) j
    have ui : Sort.scanUp (fun x => ltE x d[a]!) d j i ≤ 20000 := by
      rcases Nat.lt_or_ge (j + 1) i with g | g
      · rw [Sort.scanUp, if_neg (by simp; omega)]; exact hi
      · have := u.2.1 g; omega
    have pg := Sort.partLoop_guard ltE a i j d
    rw [Sort.partLoop_eq]
    refine ptE_up a0 a2 a3 a j d _ ha hj hs (j + 1 - i) i (Nat.le_refl _) hi ?_
    refine ptE_down a0 a2 a3 a _ d _ ha (by omega) ui hs j hj ?_
    apply V.slices_partitionCmpFunc_apiEntry_by_keys_row_1.j111111111000011.of
    unfold F.slices_partitionCmpFunc_apiEntry_by_keys_row_1.j111111111000011.B
    by_cases g : Sort.scanUp (fun x => ltE x d[a]!) d j i > Sort.scanDown (fun x => !ltE x d[a]!) d (Sort.scanUp (fun x => ltE x d[a]!) d j i) j
    · rw [if_yes (by omega), if_pos g]
      apply V.slices_partitionCmpFunc_apiEntry_by_keys_row_1.j1111111111.of
      unfold F.slices_partitionCmpFunc_apiEntry_by_keys_row_1.j1111111111.B
      refine (swapK d _ a (by omega) ha (fun L => V.slices_partitionCmpFunc_apiEntry_by_keys_row_1.j11111111111 a0 (a : Int) a2 a3 ((Sort.scanDown (fun x => !ltE x d[a]!) d (Sort.scanUp (fun x => ltE x d[a]!) d j i) j : Nat) : Int) L)).trans ?_
      apply V.slices_partitionCmpFunc_apiEntry_by_keys_row_1.j11111111111.of
      rfl
    · rw [if_no (by omega), if_neg g]
      have pg := pg g
      apply V.slices_partitionCmpFunc_apiEntry_by_keys_row_1.j1111111110000111.of
      unfold F.slices_partitionCmpFunc_apiEntry_by_keys_row_1.j1111111110000111.B
      refine (swapK d _ _ (by omega) (by omega) (fun L => V.slices_partitionCmpFunc_apiEntry_by_keys_row_1.j11111111100001111 a0 (a : Int) a2 a3 ((Sort.scanUp (fun x => ltE x d[a]!) d j i : Nat) : Int) ((Sort.scanDown (fun x => !ltE x d[a]!) d (Sort.scanUp (fun x => ltE x d[a]!) d j i) j : Nat) : Int) L)).trans ?_
      apply V.slices_partitionCmpFunc_apiEntry_by_keys_row_1.j11111111100001111.of
      unfold F.slices_partitionCmpFunc_apiEntry_by_keys_row_1.j11111111100001111.B
      rw [up1 (by omega), dn1' (by omega) (by omega)]
      cases n with
      | zero => omega
      | succ n => exact ptE_loop a0 a2 a3 a n _ _ _ (by omega) (by omega) (by omega) (by rw [swp_sz]; exact ha) (by rw [swp_sz]; omega) (by rw [swp_sz]; exact hs)
theorem swp_raw (d : Array TEntry) (i j : Nat) (hi : i < d.size) (hj : j < d.size) : (d.toList.set (i : Int).toNat ((rd sEntry d.toList (j : Int).toNat).1, (rd sEntry d.toList (j : Int).toNat).2)).set (j : Int).toNat ((rd sEntry d.toList (i : Int).toNat).1, (rd sEntry d.toList (i : Int).toNat).2) = (Sort.swp d i j).toList := set_arr d hi hj
theorem ptE_up1 (d0 : Array TEntry) (a b p : Nat) (hap : a ≤ p) (hpb : p < b) (hb : b ≤ d0.size) (hs : d0.size ≤ 10000) (d : Array TEntry) (hd : d = Sort.swp d0 a p) (r : Int × Bool × List TEntry) : ∀ (n i : Nat), b - i ≤ n → i ≤ 20000 →
    V.slices_partitionCmpFunc_apiEntry_by_keys_row_1.j1111 d0.toList (a : Int) (b : Int) (p : Int) ((Sort.scanUp (fun x => ltE x d[a]!) d (b - 1) i : Nat) : Int) = some r → V.slices_partitionCmpFunc_apiEntry_by_keys_row_1.l11100 d0.toList (a : Int) (b : Int) (p : Int) (i : Int) = some r
  | n, i, hn, hi, h => by
    have hz : d.size = d0.size := by rw [hd, swp_sz]
    apply V.slices_partitionCmpFunc_apiEntry_by_keys_row_1.l11100.of
    unfold F.slices_partitionCmpFunc_apiEntry_by_keys_row_1.l11100.B
    rw [Sort.scanUp] at h
    rw [dn1' (by omega) (by omega), swp_raw d0 a p (by omega) (by omega), ← hd]
    by_cases g : i ≤ b - 1
    · rw [if_yes (by omega)]
      refine (cmpK d i a (by omega) (by omega) _).trans ?_
      rw [cmp_lt]
      apply V.slices_partitionCmpFunc_apiEntry_by_keys_row_1.j11100001.of
      unfold F.slices_partitionCmpFunc_apiEntry_by_keys_row_1.j11100001.B
      cases hl : ltE d[i]! d[a]! with
      | false =>
        rw [cond_false]
        rw [if_neg (by simp [hl])] at h
        exact h
      | true =>
        rw [cond_true, up1 (by omega)]
        rw [if_pos (by simp [hl, g])] at h
        cases n with
        | zero => omega
        | succ n => exact ptE_up1 d0 a b p hap hpb hb hs d hd r n (i + 1) (by omega) (by omega) h
    · rw [if_no (by omega)]
      rw [if_neg (by simp [g])] at h
      apply V.slices_partitionCmpFunc_apiEntry_by_keys_row_1.j11100001.of
      unfold F.slices_partitionCmpFunc_apiEntry_by_keys_row_1.j11100001.B
      rw [cond_false]
      exact h
theorem ptE_down1 (d0 : Array TEntry) (a b p i : Nat) (hap : a ≤ p) (hpb : p < b) (hb : b ≤ d0.size) (hs : d0.size ≤ 10000) (d : Array TEntry) (hd : d = Sort.swp d0 a p) (r : Int × Bool × List TEntry) (h0 : 0 < i) (hi : i ≤ 20000) : ∀ (j : Nat), j < d.size →
    V.slices_partitionCmpFunc_apiEntry_by_keys_row_1.j11111 d0.toList (a : Int) (b : Int) (p : Int) (i : Int) ((Sort.scanDown (fun x => !ltE x d[a]!) d i j : Nat) : Int) = some r →
    V.slices_partitionCmpFunc_apiEntry_by_keys_row_1.l111100 d0.toList (a : Int) (b : Int) (p : Int) (i : Int) (j : Int) = some r
  | 0, hj, h => by
    apply V.slices_partitionCmpFunc_apiEntry_by_keys_row_1.l111100.of
    unfold F.slices_partitionCmpFunc_apiEntry_by_keys_row_1.l111100.B
    rw [Sort.scanDown] at h
    rw [if_no (by omega)]
    apply V.slices_partitionCmpFunc_apiEntry_by_keys_row_1.j111100001.of
    unfold F.slices_partitionCmpFunc_apiEntry_by_keys_row_1.j111100001.B
    exact h
  | j + 1, hj, h => by
    have hz : d.size = d0.size := by rw [hd, swp_sz]
    apply V.slices_partitionCmpFunc_apiEntry_by_keys_row_1.l111100.of
    unfold F.slices_partitionCmpFunc_apiEntry_by_keys_row_1.l111100.B
    rw [Sort.scanDown] at h
    rw [swp_raw d0 a p (by omega) (by omega), ← hd]
    by_cases g : i ≤ j + 1
    · rw [if_yes (by omega)]
      refine (cmpK d (j + 1) a hj (by omega) _).trans ?_
      rw [cmp_lt]
      apply V.slices_partitionCmpFunc_apiEntry_by_keys_row_1.j111100001.of
      unfold F.slices_partitionCmpFunc_apiEntry_by_keys_row_1.j111100001.B
      cases hl : ltE d[j + 1]! d[a]! with
      | false =>
        rw [if_pos (by simp [hl, g])] at h
        rw [Bool.not_false, cond_true, dn1 (by omega)]
        exact ptE_down1 d0 a b p i hap hpb hb hs d hd r h0 hi j (by omega) h
      | true =>
        rw [if_neg (by simp [hl])] at h
        exact h
    · rw [if_neg (by simp; omega)] at h
      rw [if_no (by omega)]
      apply V.slices_partitionCmpFunc_apiEntry_by_keys_row_1.j111100001.of
      unfold F.slices_partitionCmpFunc_apiEntry_by_keys_row_1.j111100001.B
      exact h
theorem ptE (d0 : Array TEntry) (a b p : Nat) (hap : a ≤ p) (hpb : p < b) (hb : b ≤ d0.size) (hs : d0.size ≤ 10000) :
    V.slices_partitionCmpFunc_apiEntry_by_keys_row_1 d0.toList (a : Int) (b : Int) (p : Int) = some (((Sort.partition ltE d0 a b p).1 : Int), (Sort.partition ltE d0 a b p).2.1, (Sort.partition ltE d0 a b p).2.2.toList) := by
  have hl : d0.toList.length = d0.size := Array.length_toList
  apply V.slices_partitionCmpFunc_apiEntry_by_keys_row_1.of
  unfold F.slices_partitionCmpFunc_apiEntry_by_keys_row_1.B
  rw [meet_self, guard_in (by omega), guard_in (by omega), guard_in (by omega), guard_in (by rw [List.length_set]; omega)]
  apply V.slices_partitionCmpFunc_apiEntry_by_keys_row_1.j11.of
  unfold F.slices_partitionCmpFunc_apiEntry_by_keys_row_1.j11.B
  rw [up1 (by omega)]
  obtain ⟨d, hd⟩ : ∃ d, d = Sort.swp d0 a p := ⟨_, rfl⟩
  have hz : d.size = d0.size := by rw [hd, swp_sz]
  unfold Sort.partition
  rw [← hd]
  dsimp only
  have u := Sort.scanUp_spec (fun x => ltE x d[a]!) d (b - 1) _ (a + 1) rfl
  have u1 := u.1
  have u2 := u.2.1 (by omega)
  refine ptE_up1 d0 a b p hap hpb hb hs d hd _ _ (a + 1) (Nat.le_refl _) (by omega) ?_
  apply V.slices_partitionCmpFunc_apiEntry_by_keys_row_1.j1111.of
  unfold F.slices_partitionCmpFunc_apiEntry_by_keys_row_1.j1111.B
  rw [dn1' (by omega) (by omega)]
  have dn := Sort.scanDown_le (fun x => !ltE x d[a]!) d (Sort.scanUp (fun x => ltE x d[a]!) d (b - 1) (a + 1)) (b - 1)
  generalize Sort.scanUp (fun x => ltE x d[a]!) d (b - 1) (a + 1) = i at u1 u2 dn ⊢
  refine ptE_down1 d0 a b p i hap hpb hb hs d hd _ (by omega) (by omega) (b - 1) (by omega) ?_
  generalize Sort.scanDown (fun x => !ltE x d[a]!) d i (b - 1) = j at dn ⊢
  apply V.slices_partitionCmpFunc_apiEntry_by_keys_row_1.j11111.of
  unfold F.slices_partitionCmpFunc_apiEntry_by_keys_row_1.j11111.B
  rw [swp_raw d0 a p (by omega) (by omega), ← hd]
  by_cases g : i > j
  · rw [if_yes (by omega)]
    simp only [if_pos g]
    refine (swapK d j a (by omega) (by omega) (fun L => V.slices_partitionCmpFunc_apiEntry_by_keys_row_1.j111110101 d0.toList (a : Int) (b : Int) (p : Int) (j : Int) L)).trans ?_
    apply V.slices_partitionCmpFunc_apiEntry_by_keys_row_1.j111110101.of
    rfl
  · rw [if_no (by omega)]
    simp only [if_neg g]
    apply V.slices_partitionCmpFunc_apiEntry_by_keys_row_1.j111111.of
    unfold F.slices_partitionCmpFunc_apiEntry_by_keys_row_1.j111111.B
    rw [swp_raw d0 a p (by omega) (by omega), ← hd]
    refine (swapK d i j (by omega) (by omega) (fun L => V.slices_partitionCmpFunc_apiEntry_by_keys_row_1.j1111111 d0.toList (a : Int) (b : Int) (p : Int) (i : Int) (j : Int) L)).trans ?_
    apply V.slices_partitionCmpFunc_apiEntry_by_keys_row_1.j1111111.of
    unfold F.slices_partitionCmpFunc_apiEntry_by_keys_row_1.j1111111.B
    rw [up1 (by omega), dn1' (by omega) (by omega)]
    exact ptE_loop _ _ _ a _ (i + 1) (j - 1) _ (Nat.le_refl _) (by omega) (by omega) (by rw [swp_sz]; omega) (by rw [swp_sz]; omega) (by rw [swp_sz]; omega)

end Go.Proofs.Ytdblhdpnllckhaa.AE
end
section
set_option linter.unusedVariables false
set_option linter.unusedSimpArgs false
set_option maxRecDepth 20000
namespace Go.Proofs.Ytdblhdpnllckhaa.AE
open Go

/-! ### Numbers -/

theorem len_tab : ∀ n : Fin 64, F.math_bits_Len64.j1111.B (n.val : Int) (n.val : Int) 0 = some (Sort.bitsLen n.val : Int) := by decide +kernel
theorem len_ok (n : Nat) (h : n < 64) : V.math_bits_Len (n : Int) = some (Sort.bitsLen n : Int) := by
  apply V.math_bits_Len.of
  unfold F.math_bits_Len.B
  suffices h2 : V.math_bits_Len64 (n : Int) = some (Sort.bitsLen n : Int) by rw [h2, Option.bind_some]
  apply V.math_bits_Len64.of
  unfold F.math_bits_Len64.B
  rw [if_no (by omega)]
  apply V.math_bits_Len64.j11.of
  unfold F.math_bits_Len64.j11.B
  rw [if_no (by omega)]
  apply V.math_bits_Len64.j111.of
  unfold F.math_bits_Len64.j111.B
  rw [if_no (by omega)]
  apply V.math_bits_Len64.j1111.of
  exact len_tab ⟨n, h⟩
theorem len_small : ∀ n : Fin 64, Sort.bitsLen n.val ≤ 6 ∧ (8 ≤ n.val → 2 ^ Sort.bitsLen n.val ≤ 2 * n.val) ∧ 1 ≤ 2 ^ Sort.bitsLen n.val ∧ 2 ^ Sort.bitsLen n.val ≤ 64 := by decide +kernel
theorem npot_ok (n : Nat) (h : n < 64) : V.slices_nextPowerOfTwo (n : Int) = some ((2 ^ Sort.bitsLen n : Nat) : Int) := by
  obtain ⟨h1, _, h2, h3⟩ := len_small ⟨n, h⟩
  dsimp only at h1 h2 h3
  apply V.slices_nextPowerOfTwo.of
  unfold F.slices_nextPowerOfTwo.B
  rw [u64_id (by omega) (by omega), len_ok n h, Option.bind_some, if_neg (by omega)]
  rw [show (((Sort.bitsLen n : Nat) : Int)).toNat = Sort.bitsLen n from rfl, Nat.min_eq_left (by omega)]
  rw [show ((1 : Int) * 2 ^ Sort.bitsLen n) = ((2 ^ Sort.bitsLen n : Nat) : Int) by push_cast; omega, u64_id (by omega) (by omega)]
theorem xor_ok (x : Int) : ∃ y, V.slices_xorshift_Next x = some (y, y) := by
  have h1 : ∃ y, F.slices_xorshift_Next.j1111.B x = some (y, y) := ⟨_, rfl⟩
  obtain ⟨y, hy⟩ := h1
  have g1 := V.slices_xorshift_Next.j1111.of x hy
  have g2 : V.slices_xorshift_Next.j111 x = some (y, y) := by
    apply V.slices_xorshift_Next.j111.of
    unfold F.slices_xorshift_Next.j111.B
    rw [meet_self, g1]
  have g3 : V.slices_xorshift_Next.j11 x = some (y, y) := by
    apply V.slices_xorshift_Next.j11.of
    unfold F.slices_xorshift_Next.j11.B
    rw [meet_self, g2]
  refine ⟨y, ?_⟩
  apply V.slices_xorshift_Next.of
  unfold F.slices_xorshift_Next.B
  rw [meet_self, g3]
theorem and_ok (x : Int) (m : Nat) (h1 : 1 ≤ m) (h2 : m ≤ 64) : ∃ c : Nat, c < m ∧ w64 (IntKind.wrap .u64 ((BitVec.ofInt 64 x &&& BitVec.ofInt 64 (IntKind.wrap .u64 ((m : Int) - 1))).toNat : Int)) = (c : Int) := by
  have e : (BitVec.ofInt 64 (IntKind.wrap .u64 ((m : Int) - 1))).toNat = m - 1 := by
    rw [u64_id (by omega) (by omega), show ((m : Int) - 1) = ((m - 1 : Nat) : Int) by omega, BitVec.ofInt_natCast, BitVec.toNat_ofNat]
    omega
  have hc : (BitVec.ofInt 64 x &&& BitVec.ofInt 64 (IntKind.wrap .u64 ((m : Int) - 1))).toNat ≤ m - 1 := by
    rw [BitVec.toNat_and, e]; exact Nat.and_le_right
  refine ⟨(BitVec.ofInt 64 x &&& BitVec.ofInt 64 (IntKind.wrap .u64 ((m : Int) - 1))).toNat, by omega, ?_⟩
  rw [u64_id (by omega) (by omega), w64_id (by omega) (by omega)]

/-! ### The patterns broken -/

theorem brE_l (a0 : List TEntry) (a b : Nat) (h8 : 8 ≤ b - a) (h50 : b - a < 64) (m : Nat) (h1 : 1 ≤ m) (h2 : m ≤ 64) (h3 : m ≤ 2 * (b - a)) : ∀ (k i : Nat) (d : Array TEntry) (x : Int), i + k = a + (b - a) / 4 * 2 + 2 → a ≤ i → b ≤ d.size → d.size ≤ 10000 →
    ∃ d', V.slices_breakPatternsCmpFunc_apiEntry_by_keys_row_1.l1101110 a0 (a : Int) (b : Int) (m : Int) (i : Int) d.toList x = some d'.toList ∧ Sort.PermIn a b d d'
  | k, i, d, x, hi, hai, hb, hs => by
    have eb : w64 (w64 ((a : Int) + w64 (w64 (Int.tdiv (w64 ((b : Int) - (a : Int))) 4) * 2)) + 1) = ((a + (b - a) / 4 * 2 + 1 : Nat) : Int) := by
      rw [subw (by omega) (by omega), show w64 (Int.tdiv ((b - a : Nat) : Int) 4) = (((b - a) / 4 : Nat) : Int) by rw [Int.tdiv_eq_ediv_of_nonneg (by omega), w64_id (by omega) (by omega)]; omega,
        show w64 ((((b - a) / 4 : Nat) : Int) * 2) = (((b - a) / 4 * 2 : Nat) : Int) by rw [w64_id (by omega) (by omega)]; omega, addw (by omega), up1 (by omega)]
    cases k with
    | zero =>
      refine ⟨d, ?_, Sort.permIn_refl d a b⟩
      apply V.slices_breakPatternsCmpFunc_apiEntry_by_keys_row_1.l1101110.of
      unfold F.slices_breakPatternsCmpFunc_apiEntry_by_keys_row_1.l1101110.B
      rw [eb, if_no (by omega)]
    | succ k =>
      obtain ⟨y, hy⟩ := xor_ok x
      obtain ⟨c, hc, he⟩ := and_ok y m h1 h2
      have step : ∀ o : Nat, o < b - a → ∃ d', V.slices_breakPatternsCmpFunc_apiEntry_by_keys_row_1.j1101110010011 a0 (a : Int) (b : Int) (m : Int) (i : Int) (o : Int) d.toList y = some d'.toList ∧ Sort.PermIn a b d d' := fun o ho => by
        obtain ⟨d', g1, g2⟩ := brE_l a0 a b h8 h50 m h1 h2 h3 k (i + 1) (Sort.swp d i (a + o)) y (by omega) (by omega) (by rw [swp_sz]; omega) (by rw [swp_sz]; exact hs)
        refine ⟨d', ?_, Sort.permIn_trans _ _ _ a b (Sort.swp_permIn d a b i (a + o) hai (by omega) (by omega) (by omega) hb) g2⟩
        apply V.slices_breakPatternsCmpFunc_apiEntry_by_keys_row_1.j1101110010011.of
        unfold F.slices_breakPatternsCmpFunc_apiEntry_by_keys_row_1.j1101110010011.B
        rw [addw (by omega)]
        refine (swapK d i (a + o) (by omega) (by omega) (fun L => V.slices_breakPatternsCmpFunc_apiEntry_by_keys_row_1.j1101110011 a0 (a : Int) (b : Int) (m : Int) (i : Int) L y)).trans ?_
        apply V.slices_breakPatternsCmpFunc_apiEntry_by_keys_row_1.j1101110011.of
        unfold F.slices_breakPatternsCmpFunc_apiEntry_by_keys_row_1.j1101110011.B
        rw [up1 (by omega)]
        exact g1
      by_cases g : c ≥ b - a
      · obtain ⟨d', g1, g2⟩ := step (c - (b - a)) (by omega)
        refine ⟨d', ?_, g2⟩
        apply V.slices_breakPatternsCmpFunc_apiEntry_by_keys_row_1.l1101110.of
        unfold F.slices_breakPatternsCmpFunc_apiEntry_by_keys_row_1.l1101110.B
        rw [eb, if_yes (by omega), hy, Option.bind_some]
        dsimp only
        rw [he, subw (by omega) (by omega), if_yes (by omega), subw g (by omega)]
        exact g1
      · obtain ⟨d', g1, g2⟩ := step c (by omega)
        refine ⟨d', ?_, g2⟩
        apply V.slices_breakPatternsCmpFunc_apiEntry_by_keys_row_1.l1101110.of
        unfold F.slices_breakPatternsCmpFunc_apiEntry_by_keys_row_1.l1101110.B
        rw [eb, if_yes (by omega), hy, Option.bind_some]
        dsimp only
        rw [he, subw (by omega) (by omega), if_no (by omega)]
        exact g1
theorem brE (d : Array TEntry) (a b : Nat) (h8 : 8 ≤ b - a) (h50 : b - a < 64) (hb : b ≤ d.size) (hs : d.size ≤ 10000) : ∃ d', V.slices_breakPatternsCmpFunc_apiEntry_by_keys_row_1 d.toList (a : Int) (b : Int) = some d'.toList ∧ Sort.PermIn a b d d' := by
  obtain ⟨h1, h2, h3, h4⟩ := len_small ⟨b - a, by omega⟩
  dsimp only at h1 h2 h3 h4
  obtain ⟨d', g1, g2⟩ := brE_l d.toList a b h8 h50 (2 ^ Sort.bitsLen (b - a)) h3 h4 (h2 h8) 3 (a + (b - a) / 4 * 2 - 1) d (IntKind.wrap .u64 ((b - a : Nat) : Int)) (by omega) (by omega) hb hs
  refine ⟨d', ?_, g2⟩
  apply V.slices_breakPatternsCmpFunc_apiEntry_by_keys_row_1.of
  unfold F.slices_breakPatternsCmpFunc_apiEntry_by_keys_row_1.B
  have e : w64 (w64 ((a : Int) + w64 (w64 (Int.tdiv ((b - a : Nat) : Int) 4) * 2)) - 1) = ((a + (b - a) / 4 * 2 - 1 : Nat) : Int) := by
    rw [show w64 (Int.tdiv ((b - a : Nat) : Int) 4) = (((b - a) / 4 : Nat) : Int) by rw [Int.tdiv_eq_ediv_of_nonneg (by omega), w64_id (by omega) (by omega)]; omega,
      show w64 ((((b - a) / 4 : Nat) : Int) * 2) = (((b - a) / 4 * 2 : Nat) : Int) by rw [w64_id (by omega) (by omega)]; omega, addw (by omega), dn1' (by omega) (by omega)]
  rw [subw (by omega) (by omega), if_yes (by omega), npot_ok (b - a) (by omega), Option.bind_some, e]
  exact g1

/-! ### The whole -/

theorem insE_ok' (d : Array TEntry) (a b : Nat) (hab : a ≤ b) (hb : b ≤ d.size) (hs : d.size ≤ 10000) : V.slices_insertionSortCmpFunc_apiEntry_by_keys_row_1 d.toList (a : Int) (b : Int) = some (Sort.insertionSort ltE d a b).toList := by
  rcases Nat.lt_or_ge a b with h | h
  · exact insE_ok d a b h hb hs
  · apply V.slices_insertionSortCmpFunc_apiEntry_by_keys_row_1.of
    unfold F.slices_insertionSortCmpFunc_apiEntry_by_keys_row_1.B
    rw [up1 (by omega)]
    apply V.slices_insertionSortCmpFunc_apiEntry_by_keys_row_1.l10.of
    unfold F.slices_insertionSortCmpFunc_apiEntry_by_keys_row_1.l10.B Sort.insertionSort
    rw [if_no (by omega), Sort.insOuter, if_neg (by omega)]

theorem pdqE_ins (a0 : List TEntry) (a1 a2 a3 : Int) (a b limit : Nat) (wb wp : Bool) (d : Array TEntry) (h12 : b - a ≤ 12) (hab : a ≤ b) (hb : b ≤ d.size) (hs : d.size ≤ 10000) :
    ∃ R, V.slices_pdqsortCmpFunc_apiEntry_by_keys_row_1.l110 a0 a1 a2 a3 (a : Int) (b : Int) (limit : Int) wb wp d.toList = some R.toList ∧ Sort.PermIn a b d R ∧ Sort.SortedIn ltE a b R := by
  refine ⟨_, ?_, Sort.insertionSort_holds swoE d a b hab hb⟩
  apply V.slices_pdqsortCmpFunc_apiEntry_by_keys_row_1.l110.of
  unfold F.slices_pdqsortCmpFunc_apiEntry_by_keys_row_1.l110.B
  rw [subw hab (by omega), if_yes (by omega), insE_ok' d a b hab hb hs, Option.bind_some]

theorem pdqE_l (n : Nat) : ∀ (a b limit : Nat) (wb wp : Bool) (d : Array TEntry) (a0 : List TEntry) (a1 a2 a3 : Int), b - a ≤ n → b - a < 64 → limit ≤ 100 → a ≤ b → b ≤ d.size → d.size ≤ 10000 → Sort.Below ltE a b d →
    ∃ R, V.slices_pdqsortCmpFunc_apiEntry_by_keys_row_1.l110 a0 a1 a2 a3 (a : Int) (b : Int) (limit : Int) wb wp d.toList = some R.toList ∧ Sort.PermIn a b d R ∧ Sort.SortedIn ltE a b R := by
  induction n with
  | zero => exact fun a b limit wb wp d a0 a1 a2 a3 hn h50 hl hab hb hs hB => pdqE_ins a0 a1 a2 a3 a b limit wb wp d (by omega) hab hb hs
  | succ n IH =>
    intro a b limit wb wp d a0 a1 a2 a3 hn h50 hl hab hb hs hB
    by_cases h12 : b - a ≤ 12
    · exact pdqE_ins a0 a1 a2 a3 a b limit wb wp d h12 hab hb hs
    have call : ∀ (a b lim : Nat) (d : Array TEntry), b - a ≤ n → b - a < 64 → lim ≤ 100 → a ≤ b → b ≤ d.size → d.size ≤ 10000 → Sort.Below ltE a b d → ∃ R, V.slices_pdqsortCmpFunc_apiEntry_by_keys_row_1 d.toList (a : Int) (b : Int) (lim : Int) = some R.toList ∧ Sort.PermIn a b d R ∧ Sort.SortedIn ltE a b R := fun a b lim d g1 g2 g3 g4 g5 g6 g7 => by
      obtain ⟨R, r1, r2⟩ := IH a b lim true true d d.toList (a : Int) (b : Int) (lim : Int) g1 g2 g3 g4 g5 g6 g7
      refine ⟨R, ?_, r2⟩
      apply V.slices_pdqsortCmpFunc_apiEntry_by_keys_row_1.of
      unfold F.slices_pdqsortCmpFunc_apiEntry_by_keys_row_1.B
      exact r1
    -- the two sides
    have part : ∀ (d3 : Array TEntry) (p lim : Nat), lim ≤ 100 → a ≤ p → p < b → b ≤ d3.size → d3.size ≤ 10000 → Sort.Below ltE a b d3 → ∃ R, V.slices_pdqsortCmpFunc_apiEntry_by_keys_row_1.j1100011111111 a0 a1 a2 a3 (a : Int) (b : Int) (lim : Int) ((b - a : Nat) : Int) (p : Int) d3.toList = some R.toList ∧ Sort.PermIn a b d3 R ∧ Sort.SortedIn ltE a b R := fun d3 p lim hlim hp1 hp2 hb3 hs3 hB3 => by
      have hpt := ptE d3 a b p hp1 hp2 hb3 hs3
      rcases hx : Sort.partition ltE d3 a b p with ⟨mid, ap, d4⟩
      rw [hx] at hpt
      dsimp only at hpt
      obtain ⟨g1, g2, hs4, hBa, hBr, hleft, hright⟩ := Sort.round_part swoE (Sort.partition_holds ltE) hp1 hp2 hb3 hB3 hx
      have key : ∃ R, F.slices_pdqsortCmpFunc_apiEntry_by_keys_row_1.j1100011111111.B V.slices_partitionCmpFunc_apiEntry_by_keys_row_1 V.slices_pdqsortCmpFunc_apiEntry_by_keys_row_1 V.slices_pdqsortCmpFunc_apiEntry_by_keys_row_1.l110 a0 a1 a2 a3 (a : Int) (b : Int) (lim : Int) ((b - a : Nat) : Int) (p : Int) d3.toList = some R.toList ∧ Sort.PermIn a b d3 R ∧ Sort.SortedIn ltE a b R := by
        unfold F.slices_pdqsortCmpFunc_apiEntry_by_keys_row_1.j1100011111111.B
        rw [hpt, Option.bind_some]
        dsimp only
        rw [subw g1 (by omega), subw (by omega : mid ≤ b) (by omega), up1 (by omega)]
        by_cases q : mid - a < b - mid
        · obtain ⟨L, l1, l2, l3⟩ := call a mid lim d4 (by omega) (by omega) hlim g1 (by omega) (by omega) hBa
          obtain ⟨hBL, hfin⟩ := hleft L l2 l3
          have hsL : L.size = d4.size := l2.1
          rw [if_yes (by omega), l1, Option.bind_some]
          obtain ⟨R, r1, r2, r3⟩ := IH (mid + 1) b lim (decide (((mid - a : Nat) : Int) ≥ w64 (Int.tdiv ((b - a : Nat) : Int) 8))) ap L a0 a1 a2 a3 (by omega) (by omega) hlim (by omega) (by omega) (by omega) hBL
          exact ⟨R, r1, hfin R r2 r3⟩
        · obtain ⟨L, l1, l2, l3⟩ := call (mid + 1) b lim d4 (by omega) (by omega) hlim (by omega) (by omega) (by omega) hBr
          obtain ⟨hBL, hfin⟩ := hright L l2 l3
          have hsL : L.size = d4.size := l2.1
          rw [if_no (by omega), l1, Option.bind_some]
          obtain ⟨R, r1, r2, r3⟩ := IH a mid lim (decide (((b - mid : Nat) : Int) ≥ w64 (Int.tdiv ((b - a : Nat) : Int) 8))) ap L a0 a1 a2 a3 (by omega) (by omega) hlim (by omega) (by omega) (by omega) hBL
          exact ⟨R, r1, hfin R r2 r3⟩
      obtain ⟨R, r1, r2⟩ := key
      refine ⟨R, ?_, r2⟩
      apply V.slices_pdqsortCmpFunc_apiEntry_by_keys_row_1.j1100011111111.of
      exact r1
    -- those equal to the pivot
    have equ : ∀ (d3 : Array TEntry) (p lim : Nat), lim ≤ 100 → a ≤ p → p < b → b ≤ d3.size → d3.size ≤ 10000 → Sort.Below ltE a b d3 → ∃ R, V.slices_pdqsortCmpFunc_apiEntry_by_keys_row_1.j110001111111 a0 a1 a2 a3 (a : Int) (b : Int) (lim : Int) wb wp ((b - a : Nat) : Int) (p : Int) d3.toList = some R.toList ∧ Sort.PermIn a b d3 R ∧ Sort.SortedIn ltE a b R := fun d3 p lim hlim hp1 hp2 hb3 hs3 hB3 => by
      obtain ⟨R0, q1, q2⟩ := part d3 p lim hlim hp1 hp2 hb3 hs3 hB3
      have no : V.slices_pdqsortCmpFunc_apiEntry_by_keys_row_1.j11000111111101 a0 a1 a2 a3 (a : Int) (b : Int) (lim : Int) wb wp ((b - a : Nat) : Int) (p : Int) false d3.toList = some R0.toList := by
        apply V.slices_pdqsortCmpFunc_apiEntry_by_keys_row_1.j11000111111101.of
        unfold F.slices_pdqsortCmpFunc_apiEntry_by_keys_row_1.j11000111111101.B
        rw [cond_false]
        exact q1
      by_cases ha : a > 0
      · cases hl : ltE d3[a - 1]! d3[p]! with
        | true =>
          refine ⟨R0, ?_, q2⟩
          apply V.slices_pdqsortCmpFunc_apiEntry_by_keys_row_1.j110001111111.of
          unfold F.slices_pdqsortCmpFunc_apiEntry_by_keys_row_1.j110001111111.B
          rw [if_yes (by omega), dn1' (by omega) ha]
          refine (cmpK d3 (a - 1) p (by omega) (by omega) _).trans ?_
          rw [cmp_lt, hl]
          exact no
        | false =>
          have hpe := peE d3 a b p hp1 hp2 hb3 hs3
          rcases hx : Sort.partitionEqual ltE d3 a b p with ⟨mid, d4⟩
          rw [hx] at hpe
          dsimp only at hpe
          obtain ⟨g1, g2, hs4, hB4, hfin⟩ := Sort.round_eq swoE (Sort.partitionEqual_holds ltE) ha hp1 hp2 hb3 hB3 hl hx
          obtain ⟨R, r1, r2, r3⟩ := IH mid b lim wb wp d4 a0 a1 a2 a3 (by omega) (by omega) hlim g2 (by omega) (by omega) hB4
          refine ⟨R, ?_, hfin R r2 r3⟩
          apply V.slices_pdqsortCmpFunc_apiEntry_by_keys_row_1.j110001111111.of
          unfold F.slices_pdqsortCmpFunc_apiEntry_by_keys_row_1.j110001111111.B
          rw [if_yes (by omega), dn1' (by omega) ha]
          refine (cmpK d3 (a - 1) p (by omega) (by omega) _).trans ?_
          rw [cmp_lt, hl, Bool.not_false]
          apply V.slices_pdqsortCmpFunc_apiEntry_by_keys_row_1.j11000111111101.of
          unfold F.slices_pdqsortCmpFunc_apiEntry_by_keys_row_1.j11000111111101.B
          rw [cond_true, hpe, Option.bind_some]
          exact r1
      · refine ⟨R0, ?_, q2⟩
        apply V.slices_pdqsortCmpFunc_apiEntry_by_keys_row_1.j110001111111.of
        unfold F.slices_pdqsortCmpFunc_apiEntry_by_keys_row_1.j110001111111.B
        rw [if_no (by omega)]
        exact no
    -- the insertion that gives up
    have ins : ∀ (f : Bool) (d2 : Array TEntry) (p lim : Nat), lim ≤ 100 → a ≤ p → p < b → b ≤ d2.size → d2.size ≤ 10000 → Sort.Below ltE a b d2 → ∃ R, V.slices_pdqsortCmpFunc_apiEntry_by_keys_row_1.j1100011111101 a0 a1 a2 a3 (a : Int) (b : Int) (lim : Int) wb wp ((b - a : Nat) : Int) (p : Int) f d2.toList = some R.toList ∧ Sort.PermIn a b d2 R ∧ Sort.SortedIn ltE a b R := fun f d2 p lim hlim hp1 hp2 hb2 hs2 hB2 => by
      cases f with
      | false =>
        obtain ⟨R, r1, r2⟩ := equ d2 p lim hlim hp1 hp2 hb2 hs2 hB2
        refine ⟨R, ?_, r2⟩
        apply V.slices_pdqsortCmpFunc_apiEntry_by_keys_row_1.j1100011111101.of
        unfold F.slices_pdqsortCmpFunc_apiEntry_by_keys_row_1.j1100011111101.B
        rw [cond_false]
        exact r1
      | true =>
        have hpi := partialE d2 a b (by omega) hb2 hs2
        obtain ⟨s1, s2⟩ := Sort.partialInsertionSort_holds swoE d2 a b (by omega) hb2 hB2
        cases hq : (Sort.partialInsertionSort ltE d2 a b).2 with
        | true =>
          refine ⟨_, ?_, s1, s2 hq⟩
          apply V.slices_pdqsortCmpFunc_apiEntry_by_keys_row_1.j1100011111101.of
          unfold F.slices_pdqsortCmpFunc_apiEntry_by_keys_row_1.j1100011111101.B
          rw [cond_true, hpi, Option.bind_some, hq]
          rfl
        | false =>
          have hz := s1.1
          obtain ⟨R, r1, r2, r3⟩ := equ _ p lim hlim hp1 hp2 (by rw [hz]; exact hb2) (by rw [hz]; exact hs2) (hB2.perm hb2 s1)
          refine ⟨R, ?_, Sort.permIn_trans _ _ _ a b s1 r2, r3⟩
          apply V.slices_pdqsortCmpFunc_apiEntry_by_keys_row_1.j1100011111101.of
          unfold F.slices_pdqsortCmpFunc_apiEntry_by_keys_row_1.j1100011111101.B
          rw [cond_true, hpi, Option.bind_some, hq]
          exact r1
    have hint : ∀ (t : Int) (d2 : Array TEntry) (p lim : Nat), lim ≤ 100 → a ≤ p → p < b → b ≤ d2.size → d2.size ≤ 10000 → Sort.Below ltE a b d2 → ∃ R, V.slices_pdqsortCmpFunc_apiEntry_by_keys_row_1.j11000111111 a0 a1 a2 a3 (a : Int) (b : Int) (lim : Int) wb wp ((b - a : Nat) : Int) (p : Int) t d2.toList = some R.toList ∧ Sort.PermIn a b d2 R ∧ Sort.SortedIn ltE a b R := fun t d2 p lim hlim hp1 hp2 hb2 hs2 hB2 => by
      have key : ∃ R, F.slices_pdqsortCmpFunc_apiEntry_by_keys_row_1.j11000111111.B V.slices_pdqsortCmpFunc_apiEntry_by_keys_row_1.j1100011111101 a0 a1 a2 a3 (a : Int) (b : Int) (lim : Int) wb wp ((b - a : Nat) : Int) (p : Int) t d2.toList = some R.toList ∧ Sort.PermIn a b d2 R ∧ Sort.SortedIn ltE a b R := by
        unfold F.slices_pdqsortCmpFunc_apiEntry_by_keys_row_1.j11000111111.B
        have i1 := ins (t == 1) d2 p lim hlim hp1 hp2 hb2 hs2 hB2
        have i2 := ins false d2 p lim hlim hp1 hp2 hb2 hs2 hB2
        clear part equ ins
        cases wb with
        | false => exact i2
        | true =>
          cases wp with
          | false => exact i2
          | true => exact i1
      obtain ⟨R, r1, r2⟩ := key
      refine ⟨R, ?_, r2⟩
      apply V.slices_pdqsortCmpFunc_apiEntry_by_keys_row_1.j11000111111.of
      exact r1
    have piv : ∀ (d1 : Array TEntry) (lim : Nat), lim ≤ 100 → b ≤ d1.size → d1.size ≤ 10000 → Sort.Below ltE a b d1 → ∃ R, V.slices_pdqsortCmpFunc_apiEntry_by_keys_row_1.j110001111 a0 a1 a2 a3 (a : Int) (b : Int) (lim : Int) wb wp ((b - a : Nat) : Int) d1.toList = some R.toList ∧ Sort.PermIn a b d1 R ∧ Sort.SortedIn ltE a b R := fun d1 lim hlim hb1 hs1 hB1 => by
      obtain ⟨p, t, e1, e2, e3⟩ := pivotE d1 a b (by omega) h50 hb1 hs1
      cases ht : (t == 2) with
      | true =>
        have rv := Sort.reverseRange_holds d1 a b hab hb1
        have hz := rv.1
        obtain ⟨R, r1, r2, r3⟩ := hint 1 (Sort.reverseRange d1 a b) ((b - 1) - (p - a)) lim hlim (by omega) (by omega) (by rw [hz]; exact hb1) (by rw [hz]; exact hs1) (hB1.perm hb1 rv)
        refine ⟨R, ?_, Sort.permIn_trans _ _ _ a b rv r2, r3⟩
        apply V.slices_pdqsortCmpFunc_apiEntry_by_keys_row_1.j110001111.of
        unfold F.slices_pdqsortCmpFunc_apiEntry_by_keys_row_1.j110001111.B
        rw [e1, Option.bind_some]
        dsimp only
        rw [ht, cond_true, revE_ok d1 a b (by omega) hb1 hs1, Option.bind_some, dn1' (by omega) (by omega), subw e2 (by omega), subw (by omega) (by omega)]
        exact r1
      | false =>
        obtain ⟨R, r1, r2⟩ := hint t d1 p lim hlim e2 e3 hb1 hs1 hB1
        refine ⟨R, ?_, r2⟩
        apply V.slices_pdqsortCmpFunc_apiEntry_by_keys_row_1.j110001111.of
        unfold F.slices_pdqsortCmpFunc_apiEntry_by_keys_row_1.j110001111.B
        rw [e1, Option.bind_some]
        dsimp only
        rw [ht, cond_false]
        exact r1
    have key : ∃ R, F.slices_pdqsortCmpFunc_apiEntry_by_keys_row_1.l110.B V.slices_insertionSortCmpFunc_apiEntry_by_keys_row_1 V.slices_heapSortCmpFunc_apiEntry_by_keys_row_1 V.slices_breakPatternsCmpFunc_apiEntry_by_keys_row_1 V.slices_pdqsortCmpFunc_apiEntry_by_keys_row_1.j110001111 a0 a1 a2 a3 (a : Int) (b : Int) (limit : Int) wb wp d.toList = some R.toList ∧ Sort.PermIn a b d R ∧ Sort.SortedIn ltE a b R := by
      unfold F.slices_pdqsortCmpFunc_apiEntry_by_keys_row_1.l110.B
      rw [subw hab (by omega), if_no (by omega)]
      by_cases h0 : limit = 0
      · rw [show (((limit : Nat) : Int) == 0) = true by simp [h0], cond_true, heapE_ok d a b (by omega) hb hs, Option.bind_some]
        exact ⟨_, rfl, Sort.heapSort_holds swoE d a b hab hb⟩
      · rw [show (((limit : Nat) : Int) == 0) = false by simp [h0], cond_false, dn1' (by omega) (by omega)]
        obtain ⟨d', g1, g2⟩ := brE d a b (by omega) h50 hb hs
        have hz := g2.1
        have p1 := piv d' (limit - 1) (by omega) (by rw [hz]; exact hb) (by rw [hz]; exact hs) (hB.perm hb g2)
        have p2 := piv d limit hl hb hs hB
        clear part equ ins hint piv
        cases wb with
        | false =>
          obtain ⟨R, r1, r2, r3⟩ := p1
          rw [Bool.not_false, cond_true, g1, Option.bind_some]
          exact ⟨R, r1, Sort.permIn_trans _ _ _ a b g2 r2, r3⟩
        | true => exact p2
    obtain ⟨R, r1, r2⟩ := key
    refine ⟨R, ?_, r2⟩
    apply V.slices_pdqsortCmpFunc_apiEntry_by_keys_row_1.l110.of
    exact r1

/-- The sort: a row of the same entries, that does not fall. -/
theorem sortE (l : List TEntry) (h : l.length < 64) : ∃ l', V.slices_SortFunc_apiEntryapiEntry_by_keys_row_1 l = some l' ∧ l'.Perm l ∧ l'.Pairwise (fun x y => ltE y x = false) := by
  obtain ⟨R, r1, r2, r3⟩ := pdqE_l 64 0 l.length (Sort.bitsLen l.length) true true l.toArray l 0 (l.length : Int) (Sort.bitsLen l.length : Int) (by omega) (by omega) (by have := (len_small ⟨l.length, by omega⟩).1; dsimp only at this; omega) (by omega) (by simp) (by simp; omega) (Or.inl rfl)
  have hz : R.size = l.length := by rw [r2.1]; simp
  refine ⟨R.toList, ?_, ?_, ?_⟩
  · apply V.slices_SortFunc_apiEntryapiEntry_by_keys_row_1.of
    unfold F.slices_SortFunc_apiEntryapiEntry_by_keys_row_1.B
    rw [u64_id (by omega) (by omega), len_ok _ (by omega), Option.bind_some]
    suffices h2 : V.slices_pdqsortCmpFunc_apiEntry_by_keys_row_1 l 0 (l.length : Int) (Sort.bitsLen l.length : Int) = some R.toList by rw [h2, Option.bind_some]
    apply V.slices_pdqsortCmpFunc_apiEntry_by_keys_row_1.of
    unfold F.slices_pdqsortCmpFunc_apiEntry_by_keys_row_1.B
    exact r1
  · have := r2.2.2
    have e : R.toList.take l.length = R.toList := List.take_of_length_le (by simp [hz])
    rw [← hz] at this
    simpa [hz, e] using this
  · rw [List.pairwise_iff_getElem]
    intro i j hi hj hij
    have hi' : i < R.size := by simpa using hi
    have hj' : j < R.size := by simpa using hj
    have := r3 i j (Nat.zero_le _) hij (by omega)
    rw [getElem!_pos R i hi', getElem!_pos R j hj'] at this
    simpa using this

end Go.Proofs.Ytdblhdpnllckhaa.AE
end
section
set_option linter.unusedVariables false
set_option linter.unusedSimpArgs false
set_option maxRecDepth 20000
namespace Go.Proofs.Ytdblhdpnllckhaa.AE
open Go

def zB : ByteArray := ⟨#[0]⟩
def entN (l : List TNode) : List TEntry := l.map fun n => (n.1, nodeB n)
def entE (l : List TEdge) : List TEntry := l.map fun x => (x.1, edgeB x)
def entO (l : List TEdge) : List TEntry := l.map fun x => (x.2.1 ++ zB ++ x.1, x.2.2.1)
def entI (l : List TEdge) : List TEntry := l.map fun x => (x.2.2.1 ++ zB ++ x.1, x.2.1)
def errN : List TNode → Int
  | [] => 0
  | n :: l => if nodeN n = 0 then errN l else nodeN n
def errE : List TEdge → Int
  | [] => 0
  | x :: l => if edgeN x = 0 then errE l else edgeN x
theorem errN_zero : ∀ {l : List TNode}, errN l = 0 ↔ ∀ n ∈ l, nodeN n = 0
  | [] => by simp [errN]
  | n :: l => by
    unfold errN
    by_cases h : nodeN n = 0
    · rw [if_pos h, errN_zero]; simp [h]
    · rw [if_neg h]; simp [h]
theorem errE_zero : ∀ {l : List TEdge}, errE l = 0 ↔ ∀ n ∈ l, edgeN n = 0
  | [] => by simp [errE]
  | n :: l => by
    unfold errE
    by_cases h : edgeN n = 0
    · rw [if_pos h, errE_zero]; simp [h]
    · rw [if_neg h]; simp [h]
noncomputable def srtE (l : List TEntry) : List TEntry := (V.slices_SortFunc_apiEntryapiEntry_by_keys_row_1 l).getD []
theorem srtE_ok (l : List TEntry) (h : l.length < 64) : V.slices_SortFunc_apiEntryapiEntry_by_keys_row_1 l = some (srtE l) ∧ (srtE l).Perm l ∧ (srtE l).Pairwise (fun x y => ltE y x = false) := by
  obtain ⟨l', h1, h2, h3⟩ := sortE l h
  have e : srtE l = l' := by unfold srtE; rw [h1]; rfl
  rw [e]
  exact ⟨h1, h2, h3⟩
theorem row_ok (l : List TEntry) (h : l.length < 64) : V.keys_row l = some (srtE l) := by
  refine V.keys_row.of _ ?_
  unfold F.keys_row.B
  rw [(srtE_ok l h).1, Option.bind_some]
theorem weakE : Weak ltE := ⟨fun a => lt_irr a.1, fun _ _ _ h g => lt_trans h g, fun a b c h => by
  cases h1 : ltE a b with
  | true => exact .inl rfl
  | false =>
    cases h2 : ltE b c with
    | true => exact .inr rfl
    | false => have := swoE.ntrans _ _ _ h1 h2; rw [h] at this; cases this⟩
theorem srtE_is {l k : List TEntry} (h : l.length < 64) (hp : l.Perm k) (hk : k.Pairwise fun a b => ltE a b = true) : srtE l = k := by
  obtain ⟨_, h2, h3⟩ := srtE_ok l h
  exact srt_unique weakE (h2.trans hp) h3 hk
theorem entN_rs {l : List TNode} (h : Up (ids l)) : (entN l).Pairwise fun a b => ltE a b = true := by
  unfold entN
  rw [List.pairwise_map]
  unfold Up ids at h
  rw [List.pairwise_map] at h
  exact h.imp fun h => h
theorem entE_rs {l : List TEdge} (h : Up (eids l)) : (entE l).Pairwise fun a b => ltE a b = true := by
  unfold entE
  rw [List.pairwise_map]
  unfold Up eids at h
  rw [List.pairwise_map] at h
  exact h.imp fun h => h

theorem Nodes_l (l : List TNode) (hl : l.length < 64) (ho : ∀ n ∈ l, okNode n) : ∀ (d i : Nat), i + d = l.length →
    V.keys_Nodes.l11010 l (i : Int) (entN (l.take i)) = some (if errN (l.drop i) = 0 then (srtE (entN l), 0) else ([], errN (l.drop i)))
  | 0, i, h => by
    refine V.keys_Nodes.l11010.of _ _ _ ?_
    unfold F.keys_Nodes.l11010.B
    rw [if_out (by omega), List.drop_eq_nil_of_le (by omega), List.take_of_length_le (by omega), row_ok _ (by simpa [entN] using hl)]
    rfl
  | d + 1, i, h => by
    have hi : i < l.length := by omega
    have hm := ho _ (rd_mem (e := sNode) hi)
    have ih := Nodes_l l hl ho d (i + 1) (by omega)
    refine V.keys_Nodes.l11010.of _ _ _ ?_
    unfold F.keys_Nodes.l11010.B
    rw [if_in hi, guard_in hi, nat_cast, w64_up hi (by omega)]
    show (V.elem_PutNode (rd sNode l i)).bind _ = _
    rw [PutNode_ok _ hm, Option.bind_some, drop_rd (e := sNode) hi]
    dsimp only
    rw [errN]
    by_cases h0 : nodeN (rd sNode l i) = 0
    · rw [show (nodeN (rd sNode l i) != 0) = false by rw [h0]; rfl, cond_false, if_pos h0, ← ih, take_rd (e := sNode) hi, guard_dec (by unfold nmax; simp [entN]; omega)]
      simp [entN]
    · rw [bne_ne h0, cond_true, if_neg h0, if_neg h0]
theorem Nodes_ok (l : List TNode) (hl : l.length < 64) (ho : ∀ n ∈ l, okNode n) : V.keys_Nodes l = some (if errN l = 0 then (srtE (entN l), 0) else ([], errN l)) := by
  refine V.keys_Nodes.of _ ?_
  unfold F.keys_Nodes.B
  have := Nodes_l l hl ho l.length 0 (by omega)
  rw [List.drop_zero, List.take_zero] at this
  exact this
theorem Edges_l (l : List TEdge) (hl : l.length < 64) (ho : ∀ n ∈ l, okEdge n) : ∀ (d i : Nat), i + d = l.length →
    V.keys_Edges.l11010 l (i : Int) (entE (l.take i)) = some (if errE (l.drop i) = 0 then (srtE (entE l), 0) else ([], errE (l.drop i)))
  | 0, i, h => by
    refine V.keys_Edges.l11010.of _ _ _ ?_
    unfold F.keys_Edges.l11010.B
    rw [if_out (by omega), List.drop_eq_nil_of_le (by omega), List.take_of_length_le (by omega), row_ok _ (by simpa [entE] using hl)]
    rfl
  | d + 1, i, h => by
    have hi : i < l.length := by omega
    have hm := ho _ (rd_mem (e := sEdge) hi)
    have ih := Edges_l l hl ho d (i + 1) (by omega)
    refine V.keys_Edges.l11010.of _ _ _ ?_
    unfold F.keys_Edges.l11010.B
    rw [if_in hi, guard_in hi, nat_cast, w64_up hi (by omega)]
    show (V.elem_PutEdge (rd sEdge l i)).bind _ = _
    rw [PutEdge_ok _ hm, Option.bind_some, drop_rd (e := sEdge) hi]
    dsimp only
    rw [errE]
    by_cases h0 : edgeN (rd sEdge l i) = 0
    · rw [show (edgeN (rd sEdge l i) != 0) = false by rw [h0]; rfl, cond_false, if_pos h0, ← ih, take_rd (e := sEdge) hi, guard_dec (by unfold nmax; simp [entE]; omega)]
      simp [entE]
    · rw [bne_ne h0, cond_true, if_neg h0, if_neg h0]
theorem Edges_ok (l : List TEdge) (hl : l.length < 64) (ho : ∀ n ∈ l, okEdge n) : V.keys_Edges l = some (if errE l = 0 then (srtE (entE l), 0) else ([], errE l)) := by
  refine V.keys_Edges.of _ ?_
  unfold F.keys_Edges.B
  have := Edges_l l hl ho l.length 0 (by omega)
  rw [List.drop_zero, List.take_zero] at this
  exact this
theorem keysOf_ok (a b : ByteArray) (ha : nameB a = true) (hb : nameB b = true) (h1 : a.size ≤ 1000) (h2 : b.size ≤ 1000) : V.keys_Of a b = some (a ++ zB ++ b, 0) := by
  have hz : zB.size = 1 := rfl
  refine V.keys_Of.of _ _ ?_
  unfold F.keys_Of.B
  rw [name_Check_ok a (by omega), name_Check_ok b (by omega), ha, hb]
  show guardK (decide (a.size + zB.size ≤ i64max)) (guardK (decide ((a ++ zB).size + b.size ≤ i64max)) (some (a ++ zB ++ b, (0 : Int)))) = _
  rw [guard_dec (by unfold i64max; omega), guard_dec (by unfold i64max; rw [ByteArray.size_append]; omega)]
theorem kOut_l (l : List TEdge) (hl : l.length < 64) (he : ∀ n ∈ l, edgeN n = 0) : ∀ (d i : Nat), i + d = l.length →
    V.keys_sides_by_keys_Out_1.l11010 l (i : Int) (entO (l.take i)) = some (srtE (entO l), 0)
  | 0, i, h => by
    refine V.keys_sides_by_keys_Out_1.l11010.of _ _ _ ?_
    unfold F.keys_sides_by_keys_Out_1.l11010.B
    rw [if_out (by omega), List.take_of_length_le (by omega), row_ok _ (by simpa [entO] using hl)]
    rfl
  | d + 1, i, h => by
    have hi : i < l.length := by omega
    obtain ⟨n1, n2, n3, _⟩ := edgeN_rest (he _ (rd_mem (e := sEdge) hi))
    have ih := kOut_l l hl he d (i + 1) (by omega)
    refine V.keys_sides_by_keys_Out_1.l11010.of _ _ _ ?_
    unfold F.keys_sides_by_keys_Out_1.l11010.B
    rw [if_in hi, guard_in hi, nat_cast, w64_up hi (by omega), V.keys_Out_1.of _ rfl, Option.bind_some]
    dsimp only
    rw [keysOf_ok _ _ n2 n1 (by have := (nameB_size n2).2; omega) (by have := (nameB_size n1).2; omega), Option.bind_some]
    dsimp only
    rw [show ((0 : Int) != 0) = false from rfl, cond_false, ← ih, take_rd (e := sEdge) hi, guard_dec (by unfold nmax; simp [entO]; omega)]
    simp [entO]
theorem kOut_ok (l : List TEdge) (hl : l.length < 64) (he : ∀ n ∈ l, edgeN n = 0) : V.keys_Out l = some (srtE (entO l), 0) := by
  refine V.keys_Out.of _ ?_
  unfold F.keys_Out.B
  have := kOut_l l hl he l.length 0 (by omega)
  rw [List.take_zero] at this
  rw [V.keys_sides_by_keys_Out_1.of l this, Option.bind_some]
theorem kIn_l (l : List TEdge) (hl : l.length < 64) (he : ∀ n ∈ l, edgeN n = 0) : ∀ (d i : Nat), i + d = l.length →
    V.keys_sides_by_keys_In_1.l11010 l (i : Int) (entI (l.take i)) = some (srtE (entI l), 0)
  | 0, i, h => by
    refine V.keys_sides_by_keys_In_1.l11010.of _ _ _ ?_
    unfold F.keys_sides_by_keys_In_1.l11010.B
    rw [if_out (by omega), List.take_of_length_le (by omega), row_ok _ (by simpa [entI] using hl)]
    rfl
  | d + 1, i, h => by
    have hi : i < l.length := by omega
    obtain ⟨n1, n2, n3, _⟩ := edgeN_rest (he _ (rd_mem (e := sEdge) hi))
    have ih := kIn_l l hl he d (i + 1) (by omega)
    refine V.keys_sides_by_keys_In_1.l11010.of _ _ _ ?_
    unfold F.keys_sides_by_keys_In_1.l11010.B
    rw [if_in hi, guard_in hi, nat_cast, w64_up hi (by omega), V.keys_In_1.of _ rfl, Option.bind_some]
    dsimp only
    rw [keysOf_ok _ _ n3 n1 (by have := (nameB_size n3).2; omega) (by have := (nameB_size n1).2; omega), Option.bind_some]
    dsimp only
    rw [show ((0 : Int) != 0) = false from rfl, cond_false, ← ih, take_rd (e := sEdge) hi, guard_dec (by unfold nmax; simp [entI]; omega)]
    simp [entI]
theorem kIn_ok (l : List TEdge) (hl : l.length < 64) (he : ∀ n ∈ l, edgeN n = 0) : V.keys_In l = some (srtE (entI l), 0) := by
  refine V.keys_In.of _ ?_
  unfold F.keys_In.B
  have := kIn_l l hl he l.length 0 (by omega)
  rw [List.take_zero] at this
  rw [V.keys_sides_by_keys_In_1.of l this, Option.bind_some]
theorem Lay_ok (g : TGraph) (h1 : g.1.length < 64) (h2 : g.2.length < 64) (hok : okGraph g) : V.keys_Lay g = some (if errN g.1 = 0 then (if errE g.2 = 0 then ((srtE (entN g.1), srtE (entE g.2), srtE (entO g.2), srtE (entI g.2)), 0) else (([], [], [], []), errE g.2)) else (([], [], [], []), errN g.1)) := by
  refine V.keys_Lay.of _ ?_
  unfold F.keys_Lay.B
  rw [Nodes_ok g.1 h1 hok.n, Option.bind_some]
  by_cases hn : errN g.1 = 0
  · rw [if_pos hn, if_pos hn]
    dsimp only
    rw [show ((0 : Int) != 0) = false from rfl, cond_false, Edges_ok g.2 h2 hok.e, Option.bind_some]
    by_cases he : errE g.2 = 0
    · rw [if_pos he, if_pos he]
      dsimp only
      rw [show ((0 : Int) != 0) = false from rfl, cond_false, kOut_ok g.2 h2 (errE_zero.1 he), Option.bind_some, kIn_ok g.2 h2 (errE_zero.1 he), Option.bind_some]
    · rw [if_neg he, if_neg he]
      dsimp only
      rw [bne_ne he, cond_true]
  · rw [if_neg hn, if_neg hn]
    dsimp only
    rw [bne_ne hn, cond_true]

end Go.Proofs.Ytdblhdpnllckhaa.AE
end
section
set_option linter.unusedVariables false
set_option linter.unusedSimpArgs false
set_option maxRecDepth 20000
namespace Go.Proofs.Ytdblhdpnllckhaa.AE
open Go

theorem back_n {n : TNode} (h : nodeN n = 0) (hok : okNode n) : takeN n.1 (nodeB n) = some n := by
  rw [takeN_iff]
  exact ⟨rfl, h, hok.pr.ranged, by unfold nodeB; rw [if_pos h]⟩
theorem back_e {x : TEdge} (h : edgeN x = 0) (hok : okEdge x) : takeE x.1 (edgeB x) = some x := by
  rw [takeE_iff]
  exact ⟨rfl, h, hok.pr.ranged, by unfold edgeB; rw [if_pos h]⟩
theorem nodeB_len {n : TNode} (h : nodeN n = 0) : (nodeB n).size ≤ 140737488351232 := by
  unfold nodeB
  rw [if_pos h]
  have := putB_bound (nodeN_short h)
  omega
theorem edgeB_len {x : TEdge} (h : edgeN x = 0) : (edgeB x).size ≤ 140737488351232 := by
  obtain ⟨⟨h1, h2⟩, h3⟩ := edgeN_short h
  have g1 := (nameB_size h1).2
  have g2 := (nameB_size h2).2
  have t1 := textB_size x.2.1
  have t2 := textB_size x.2.2.1
  have := putB_bound h3
  unfold edgeB
  rw [if_pos h, ByteArray.size_append, ByteArray.size_append]
  omega
theorem map_back {α β : Type} (f : α → β) (g : β → α) : ∀ (l : List α), (∀ a ∈ l, g (f a) = a) → (l.map f).map g = l
  | [], _ => rfl
  | a :: l, h => by rw [List.map_cons, List.map_cons, h a (by simp), map_back f g l fun b hb => h b (by simp [hb])]
set_option maxHeartbeats 1000000 in
theorem takeBack_n (l : List TNode) (hl : l.length ≤ 60) (h : ∀ n ∈ l, nodeN n = 0) (ho : ∀ n ∈ l, okNode n) : V.keys_TakeNodes (entN l) = some (l, 0) := by
  have len : (entN l).length ≤ 60 := by unfold entN; rw [List.length_map]; exact hl
  have mn : okMap (entN l) := ⟨Nat.le_trans len (by omega), fun x hx => by
    obtain ⟨n, hn, rfl⟩ := List.mem_map.1 hx
    exact ⟨(ho n hn).id, nodeB_len (h n hn)⟩⟩
  refine (TakeNodes_ok _ len mn).trans ?_
  have b : (entN l).any badN = false := by
    rw [List.any_eq_false]
    intro x hx
    obtain ⟨n, hn, rfl⟩ := List.mem_map.1 hx
    unfold badN
    rw [show takeN (n.1, nodeB n).1 (n.1, nodeB n).2 = some n from back_n (h n hn) (ho n hn)]
    exact Bool.false_ne_true
  have e1 : ∀ n ∈ l, nodeOr (n.1, nodeB n) = n := fun n hn => by
    unfold nodeOr
    rw [show takeN (n.1, nodeB n).1 (n.1, nodeB n).2 = some n from back_n (h n hn) (ho n hn)]
    rfl
  have m : (entN l).map nodeOr = l := map_back (fun n : TNode => (n.1, nodeB n)) nodeOr l e1
  rw [b, m, if_neg Bool.false_ne_true]
set_option maxHeartbeats 1000000 in
theorem takeBack_e (l : List TEdge) (hl : l.length ≤ 60) (h : ∀ n ∈ l, edgeN n = 0) (ho : ∀ n ∈ l, okEdge n) : V.keys_TakeEdges (entE l) = some (l, 0) := by
  have len : (entE l).length ≤ 60 := by unfold entE; rw [List.length_map]; exact hl
  have mn : okMap (entE l) := ⟨Nat.le_trans len (by omega), fun x hx => by
    obtain ⟨n, hn, rfl⟩ := List.mem_map.1 hx
    exact ⟨(ho n hn).id, edgeB_len (h n hn)⟩⟩
  refine (TakeEdges_ok _ len mn).trans ?_
  have b : (entE l).any badE = false := by
    rw [List.any_eq_false]
    intro x hx
    obtain ⟨n, hn, rfl⟩ := List.mem_map.1 hx
    unfold badE
    rw [show takeE (n.1, edgeB n).1 (n.1, edgeB n).2 = some n from back_e (h n hn) (ho n hn)]
    exact Bool.false_ne_true
  have e1 : ∀ n ∈ l, edgeOr (n.1, edgeB n) = n := fun n hn => by
    unfold edgeOr
    rw [show takeE (n.1, edgeB n).1 (n.1, edgeB n).2 = some n from back_e (h n hn) (ho n hn)]
    rfl
  have m : (entE l).map edgeOr = l := map_back (fun n : TEdge => (n.1, edgeB n)) edgeOr l e1
  rw [b, m, if_neg Bool.false_ne_true]
theorem ents_len (g : TGraph) (h1 : g.1.length ≤ 40) (h2 : g.2.length ≤ 60) : (entN g.1).length < 64 ∧ (entE g.2).length < 64 ∧ (entO g.2).length < 64 ∧ (entI g.2).length < 64 := by
  unfold entN entE entO entI
  rw [List.length_map, List.length_map, List.length_map, List.length_map]
  omega
set_option maxHeartbeats 1000000 in
theorem KeysBack_pure (g : TGraph) (hok : okGraph g) : V.pleachlaw31_KeysBack g = some true := by
  obtain ⟨p, h1, h2⟩ := Few_ok g
  refine V.pleachlaw31_KeysBack.of _ ?_
  unfold F.pleachlaw31_KeysBack.B
  rw [show ((g.1, g.2) : TGraph) = g from rfl, h1, Option.bind_some, awake31_ok, Wrong_ok g hok, Option.bind_some]
  cases p with
  | false => rfl
  | true =>
    have sl := h2 rfl
    by_cases hw : wrongN g = 0
    · have hg := (good_iff g).1 hw
      have ns := sl.ns
      have es := sl.es
      obtain ⟨n1, n2, n3, n4⟩ := ents_len g ns es
      have en : srtE (entN g.1) = entN g.1 := srtE_is n1 (List.Perm.refl _) (entN_rs hg.nup)
      have ee : srtE (entE g.2) = entE g.2 := srtE_is n2 (List.Perm.refl _) (entE_rs hg.eup)
      have lo : (srtE (entO g.2)).length = g.2.length := by rw [(srtE_ok (entO g.2) n3).2.1.length_eq]; exact List.length_map _
      have li : (srtE (entI g.2)).length = g.2.length := by rw [(srtE_ok (entI g.2) n4).2.1.length_eq]; exact List.length_map _
      rw [hw, Bool.not_true, cond_false, Option.bind_some, show ((0 : Int) != 0) = false from rfl, cond_false, Lay_ok g (by omega) (by omega) hok, if_pos (errN_zero.2 hg.nodes), if_pos (errE_zero.2 hg.edges), Option.bind_some, en, ee]
      dsimp only
      rw [takeBack_n g.1 (by omega) hg.nodes hok.n, Option.bind_some, takeBack_e g.2 es hg.edges hok.e, Option.bind_some]
      dsimp only
      rw [lo, li, show ((g.1, g.2) : TGraph) = g from rfl, Same_ok g g ⟨by omega, by omega, fun n hn => by have := sl.n n hn; omega, fun n hn => by have := sl.e n hn; omega⟩, Option.bind_some, decide_eq_true rfl, show ((0 : Int) == 0) = true from rfl, show ((g.2.length : Int) == (g.2.length : Int)) = true from beq_self_eq_true _]
      rfl
    · rw [Bool.not_true, cond_false, Option.bind_some, bne_ne hw]
      rfl

end Go.Proofs.Ytdblhdpnllckhaa.AE
end
section
namespace Go.Proofs.Ytdblhdpnllckhaa.AE
open Go Go.ChangeShapes Go.WideShapes Go.ChangeAt Go.RowKit
theorem weights_each {H : Type} {P : Program} {p : Nat → Bool} {ts : List TypeId} {ds : List (DataW H)} (h : (DataW.weightsEach P ts ds).all p = true) {j : Nat} {t : TypeId} {d : DataW H} (ht : ts[j]? = some t) (hd : ds[j]? = some d) : ∀ n ∈ d.weights P t, p n = true :=
  fun n hn => List.all_eq_true.1 h _ (DataW.weights_mem_each ht hd n hn)
theorem own : ownKnob Try.prog.godebug = none := by kernel_rfl
theorem laidOut : laidOutB Try.prog = true := by kernel_rfl
theorem mix : Try.prog.follows .mixedOrders = true := by kernel_rfl
theorem numGoB : (Try.prog.funcs.all fun fn => !(fn.name == "runtime.NumGoroutine")) = true := by kernel_rfl
theorem num (f : FuncId) (fn : Func) (h : Try.prog.funcs[f]? = some fn) : (fn.name == "runtime.NumGoroutine") = false := by
  have := Array.all_eq_true_iff_forall_mem.1 numGoB fn (Array.mem_of_getElem? h)
  simpa using this
def rho167 : Go.Shelf.Ren := ⟨fun i => match i with | 29 => 200 | _ => 201, fun i => match i with | 24 => 23 | 9 => 95 | 3 => 3 | 4 => 4 | _ => 0, fun x => x⟩
theorem ins167 : InsOk Try.prog rho167 167 "slices.Insert[[]pleach/api.Edge,pleach/api.Edge]" Try.f200 sEdge := by
  refine ⟨⟨mix, Try.func167.trans (congrArg some (by kernel_rfl)), Try.func200, by kernel_rfl, by kernel_rfl, by kernel_rfl, by kernel_rfl, by kernel_rfl, by kernel_rfl, by kernel_rfl, by kernel_rfl, by kernel_rfl, by decide⟩, by kernel_rfl, by kernel_rfl, by kernel_rfl, by kernel_rfl, by decide⟩
def rho166 : Go.Shelf.Ren := ⟨fun i => match i with | 29 => 198 | _ => 199, fun i => match i with | 24 => 22 | 9 => 63 | 3 => 3 | 4 => 4 | _ => 0, fun x => x⟩
theorem ins166 : InsOk Try.prog rho166 166 "slices.Insert[[]pleach/api.Node,pleach/api.Node]" Try.f198 sNode := by
  refine ⟨⟨mix, Try.func166.trans (congrArg some (by kernel_rfl)), Try.func198, by kernel_rfl, by kernel_rfl, by kernel_rfl, by kernel_rfl, by kernel_rfl, by kernel_rfl, by kernel_rfl, by kernel_rfl, by kernel_rfl, by decide⟩, by kernel_rfl, by kernel_rfl, by kernel_rfl, by kernel_rfl, by decide⟩
def rho162 : Go.Shelf.Ren := ⟨fun i => match i with | 29 => 194 | _ => 195, fun i => match i with | 24 => 60 | 9 => 9 | 3 => 3 | 4 => 4 | _ => 0, fun x => x⟩
theorem ins162 : InsOk Try.prog rho162 162 "slices.Insert[[]string,string]" Try.f194 .str := by
  refine ⟨⟨mix, Try.func162.trans (congrArg some (by kernel_rfl)), Try.func194, by kernel_rfl, by kernel_rfl, by kernel_rfl, by kernel_rfl, by kernel_rfl, by kernel_rfl, by kernel_rfl, by kernel_rfl, by kernel_rfl, by decide⟩, by kernel_rfl, by kernel_rfl, by kernel_rfl, by kernel_rfl, by decide⟩
def rho123 : Go.Shelf.Ren := ⟨fun i => match i with | 29 => 159 | _ => 160, fun i => match i with | 24 => 61 | 9 => 99 | 3 => 3 | 4 => 4 | _ => 0, fun x => x⟩
theorem ins123 : InsOk Try.prog rho123 123 "slices.Insert[[]pleach/api.Prop,pleach/api.Prop]" Try.f159 sProp := by
  refine ⟨⟨mix, Try.func123.trans (congrArg some (by kernel_rfl)), Try.func159, by kernel_rfl, by kernel_rfl, by kernel_rfl, by kernel_rfl, by kernel_rfl, by kernel_rfl, by kernel_rfl, by kernel_rfl, by kernel_rfl, by decide⟩, by kernel_rfl, by kernel_rfl, by kernel_rfl, by kernel_rfl, by decide⟩
theorem extok : ExtOk Try.prog sg := .of (show extAll Try.prog sgT from
  ⟨.nothing rfl rfl,
  ⟨.nothing rfl rfl,
  ⟨.nothing rfl rfl,
  ⟨.nothing rfl rfl,
  ⟨.nothing rfl rfl,
  ⟨.nothing rfl rfl,
  ⟨.nothing rfl rfl,
  ⟨.nothing rfl rfl,
  ⟨.nothing rfl rfl,
  ⟨.nothing rfl rfl,
  ⟨.nothing rfl rfl,
  ⟨.nothing rfl rfl,
  ⟨.nothing rfl rfl,
  ⟨.nothing rfl rfl,
  ⟨.nothing rfl rfl,
  ⟨.nothing rfl rfl,
  ⟨.nothing rfl rfl,
  ⟨.nothing rfl rfl,
  ⟨.nothing rfl rfl,
  ⟨.nothing rfl rfl,
  ⟨.nothing rfl rfl,
  ⟨.nothing rfl rfl,
  ⟨.nothing rfl rfl,
  ⟨.nothing rfl rfl,
  ⟨.nothing rfl rfl,
  ⟨.nothing rfl rfl,
  ⟨.nothing rfl rfl,
  ⟨.nothing rfl rfl,
  ⟨.nothing rfl rfl,
  ⟨.nothing rfl rfl,
  ⟨.nothing rfl rfl,
  ⟨.nothing rfl rfl,
  ⟨.nothing rfl rfl,
  ⟨.nothing rfl rfl,
  ⟨.nothing rfl rfl,
  ⟨.nothing rfl rfl,
  ⟨.nothing rfl rfl,
  ⟨.nothing rfl rfl,
  ⟨.nothing rfl rfl,
  ⟨.nothing rfl rfl,
  ⟨.nothing rfl rfl,
  ⟨.nothing rfl rfl,
  ⟨.nothing rfl rfl,
  ⟨.nothing rfl rfl,
  ⟨.nothing rfl rfl,
  ⟨.nothing rfl rfl,
  ⟨.nothing rfl rfl,
  ⟨.nothing rfl rfl,
  ⟨.nothing rfl rfl,
  ⟨.nothing rfl rfl,
  ⟨.nothing rfl rfl,
  ⟨.nothing rfl rfl,
  ⟨.nothing rfl rfl,
  ⟨.nothing rfl rfl,
  ⟨.nothing rfl rfl,
  ⟨.nothing rfl rfl,
  ⟨.nothing rfl rfl,
  ⟨.nothing rfl rfl,
  ⟨.nothing rfl rfl,
  ⟨.nothing rfl rfl,
  ⟨.nothing rfl rfl,
  ⟨.nothing rfl rfl,
  ⟨.nothing rfl rfl,
  ⟨.nothing rfl rfl,
  ⟨.nothing rfl rfl,
  ⟨.nothing rfl rfl,
  ⟨.nothing rfl rfl,
  ⟨.nothing rfl rfl,
  ⟨.nothing rfl rfl,
  ⟨.nothing rfl rfl,
  ⟨.nothing rfl rfl,
  ⟨.nothing rfl rfl,
  ⟨.nothing rfl rfl,
  ⟨.nothing rfl rfl,
  ⟨.nothing rfl rfl,
  ⟨.nothing rfl rfl,
  ⟨.nothing rfl rfl,
  ⟨.nothing rfl rfl,
  ⟨.nothing rfl rfl,
  ⟨.nothing rfl rfl,
  ⟨.nothing rfl rfl,
  ⟨.nothing rfl rfl,
  ⟨.nothing rfl rfl,
  ⟨.nothing rfl rfl,
  ⟨.nothing rfl rfl,
  ⟨.nothing rfl rfl,
  ⟨.nothing rfl rfl,
  ⟨.nothing rfl rfl,
  ⟨.nothing rfl rfl,
  ⟨.nothing rfl rfl,
  ⟨.nothing rfl rfl,
  ⟨.nothing rfl rfl,
  ⟨.nothing rfl rfl,
  ⟨.nothing rfl rfl,
  ⟨.nothing rfl rfl,
  ⟨.nothing rfl rfl,
  ⟨.nothing rfl rfl,
  ⟨.nothing rfl rfl,
  ⟨.nothing rfl rfl,
  ⟨.nothing rfl rfl,
  ⟨.nothing rfl rfl,
  ⟨.nothing rfl rfl,
  ⟨.nothing rfl rfl,
  ⟨.nothing rfl rfl,
  ⟨.nothing rfl rfl,
  ⟨.nothing rfl rfl,
  ⟨.nothing rfl rfl,
  ⟨.nothing rfl rfl,
  ⟨.nothing rfl rfl,
  ⟨.nothing rfl rfl,
  ⟨.nothing rfl rfl,
  ⟨.nothing rfl rfl,
  ⟨.nothing rfl rfl,
  ⟨.nothing rfl rfl,
  ⟨.nothing rfl rfl,
  ⟨.nothing rfl rfl,
  ⟨.nothing rfl rfl,
  ⟨(ins_ext ins123),
  ⟨.nothing rfl rfl,
  ⟨.nothing rfl rfl,
  ⟨.nothing rfl rfl,
  ⟨.nothing rfl rfl,
  ⟨.nothing rfl rfl,
  ⟨.nothing rfl rfl,
  ⟨.nothing rfl rfl,
  ⟨.nothing rfl rfl,
  ⟨.nothing rfl rfl,
  ⟨.nothing rfl rfl,
  ⟨.nothing rfl rfl,
  ⟨.nothing rfl rfl,
  ⟨.nothing rfl rfl,
  ⟨.nothing rfl rfl,
  ⟨.nothing rfl rfl,
  ⟨.nothing rfl rfl,
  ⟨.nothing rfl rfl,
  ⟨.nothing rfl rfl,
  ⟨.nothing rfl rfl,
  ⟨.nothing rfl rfl,
  ⟨.nothing rfl rfl,
  ⟨.nothing rfl rfl,
  ⟨.nothing rfl rfl,
  ⟨.nothing rfl rfl,
  ⟨.nothing rfl rfl,
  ⟨.nothing rfl rfl,
  ⟨.nothing rfl rfl,
  ⟨.nothing rfl rfl,
  ⟨.ofOp rfl rfl (opCompare_ok Try.func153 (by kernel_rfl) (by kernel_rfl) (by kernel_rfl) (by kernel_rfl)),
  ⟨.nothing rfl rfl,
  ⟨.nothing rfl rfl,
  ⟨.nothing rfl rfl,
  ⟨.nothing rfl rfl,
  ⟨.nothing rfl rfl,
  ⟨.nothing rfl rfl,
  ⟨(ins_ext ins162),
  ⟨.nothing rfl rfl,
  ⟨.nothing rfl rfl,
  ⟨.nothing rfl rfl,
  ⟨(ins_ext ins166),
  ⟨(ins_ext ins167),
  ⟨.nothing rfl rfl,
  ⟨.nothing rfl rfl,
  ⟨.nothing rfl rfl,
  ⟨.nothing rfl rfl,
  ⟨.nothing rfl rfl,
  ⟨.nothing rfl rfl,
  ⟨.nothing rfl rfl,
  ⟨.nothing rfl rfl,
  ⟨.nothing rfl rfl,
  ⟨.nothing rfl rfl,
  ⟨.nothing rfl rfl,
  ⟨.nothing rfl rfl,
  ⟨.nothing rfl rfl,
  ⟨.nothing rfl rfl,
  ⟨.nothing rfl rfl,
  ⟨.nothing rfl rfl,
  ⟨.nothing rfl rfl,
  ⟨.nothing rfl rfl,
  ⟨.nothing rfl rfl,
  ⟨.nothing rfl rfl,
  ⟨.nothing rfl rfl,
  ⟨.nothing rfl rfl,
  ⟨.nothing rfl rfl,
  ⟨.nothing rfl rfl,
  ⟨.nothing rfl rfl,
  ⟨.nothing rfl rfl,
  ⟨.nothing rfl rfl,
  ⟨.nothing rfl rfl,
  ⟨.nothing rfl rfl,
  ⟨.nothing rfl rfl,
  ⟨.nothing rfl rfl,
  ⟨.nothing rfl rfl,
  ⟨.nothing rfl rfl,
  ⟨.nothing rfl rfl,
  ⟨.nothing rfl rfl,
  ⟨.nothing rfl rfl,
  ⟨.nothing rfl rfl,
  ⟨.nothing rfl rfl,
  ⟨.nothing rfl rfl,
  ⟨.nothing rfl rfl,
  ⟨.ofOp rfl rfl (opIndexByte_ok Try.func220 (by kernel_rfl) (by kernel_rfl) (by kernel_rfl) (by kernel_rfl)),
  ⟨.nothing rfl rfl,
  ⟨.nothing rfl rfl,
  ⟨.nothing rfl rfl,
  ⟨.nothing rfl rfl,
  ⟨.nothing rfl rfl,
  ⟨.nothing rfl rfl,
  ⟨.nothing rfl rfl,
  ⟨.nothing rfl rfl,
  ⟨.nothing rfl rfl,
  ⟨.nothing rfl rfl,
  trivial⟩⟩⟩⟩⟩⟩⟩⟩⟩⟩⟩⟩⟩⟩⟩⟩⟩⟩⟩⟩⟩⟩⟩⟩⟩⟩⟩⟩⟩⟩⟩⟩⟩⟩⟩⟩⟩⟩⟩⟩⟩⟩⟩⟩⟩⟩⟩⟩⟩⟩⟩⟩⟩⟩⟩⟩⟩⟩⟩⟩⟩⟩⟩⟩⟩⟩⟩⟩⟩⟩⟩⟩⟩⟩⟩⟩⟩⟩⟩⟩⟩⟩⟩⟩⟩⟩⟩⟩⟩⟩⟩⟩⟩⟩⟩⟩⟩⟩⟩⟩⟩⟩⟩⟩⟩⟩⟩⟩⟩⟩⟩⟩⟩⟩⟩⟩⟩⟩⟩⟩⟩⟩⟩⟩⟩⟩⟩⟩⟩⟩⟩⟩⟩⟩⟩⟩⟩⟩⟩⟩⟩⟩⟩⟩⟩⟩⟩⟩⟩⟩⟩⟩⟩⟩⟩⟩⟩⟩⟩⟩⟩⟩⟩⟩⟩⟩⟩⟩⟩⟩⟩⟩⟩⟩⟩⟩⟩⟩⟩⟩⟩⟩⟩⟩⟩⟩⟩⟩⟩⟩⟩⟩⟩⟩⟩⟩⟩⟩⟩⟩⟩⟩⟩⟩⟩⟩⟩⟩⟩⟩)
end Go.Proofs.Ytdblhdpnllckhaa.AE
end
section
namespace Go.Proofs.Ytdblhdpnllckhaa.AE.keysBack
open Go Go.ChangeShapes Go.WideShapes Go.ChangeAt Go.RowKit
open Go.ChangeMaps (open_string shut_string)
set_option linter.unusedVariables false
def Pure : Prop := ∀ (x0 : den ((.prod (.list (.prod .str (.prod (.list .str) (.list (.prod .str (.prod (.int .i64) (.prod (.int .i64) .str))))))) (.list (.prod .str (.prod .str (.prod .str (.prod (.list .str) (.list (.prod .str (.prod (.int .i64) (.prod (.int .i64) .str)))))))))))), Gd ((.prod (.list (.prod .str (.prod (.list .str) (.list (.prod .str (.prod (.int .i64) (.prod (.int .i64) .str))))))) (.list (.prod .str (.prod .str (.prod .str (.prod (.list .str) (.list (.prod .str (.prod (.int .i64) (.prod (.int .i64) .str))))))))))) x0 → ∃ K, F.pleachlaw31_KeysBack K x0 = some true
set_option maxRecDepth 100000 in
theorem lifted (pure : Pure) (os : Os) (started : os.Started) (H : Type) (enc : TypeId × Value → H) :
    ReturnsInHanded {} Try.checked os 11 .any (Rows.keysBackSpec.pre6 enc Try.prog Try.f11 Rows.keysBackRow.domain false) (Rows.keysBackSpec.post enc Try.prog Try.f11 false true false false) := by
  refine returnsInHanded_of_change_sized (C := Try.checked) own started (by kernel_rfl) Try.func11
    (ChangeSpec.witness6 (enc := enc) (C := Try.checked) false ⟨#[], #[.agg #[.slice none 0 0, .slice none 0 0]], []⟩ 8 (by kernel_rfl) (by kernel_rfl) (by kernel_rfl) (by kernel_rfl)) ?_
  intro W base args ds gs before hval0 hW hcnd hsz0 _
  have hsz : (DataW.weightsEach Try.prog (Try.f11.params.toList ++ Rows.keysBackSpec.plain.varTypes Try.prog) (ds ++ gs)).all (· ≤ reachBytes) = true := hsz0
  have hval : ∀ (j : Nat) t v, Try.f11.params[j]? = some t → args[j]? = some v → Value.okWide Try.prog W .any base t v := hval0
  have hW' := hW
  obtain ⟨p, q, hA0, hV, rfl, hfz, hnd⟩ := hW
  have hA : DataW.TrodAll enc Try.prog W 0 (fun _ => true) true Try.f11.params.toList args.toList ds p := hA0
  rw [Try.params11] at hA hval hsz
  obtain ⟨v0, vs0, d0, ds0, p0, q0, hargs, rfl, rfl, h0, r0⟩ := trodAll_cons hA
  obtain ⟨rfl, rfl, rfl⟩ := trodAll_nil r0
  obtain rfl : args = #[v0] := by cases args; simp_all
  obtain ⟨rfl, rfl⟩ := trodVars_none hV
  have k0 := h0
  have lt0 : ∀ x ∈ p0, x.block < W.heap.size := by obtain ⟨m, hm⟩ := k0; exact DataW.trod_lt m _ _ _ hm
  obtain ⟨cs0, rfl, _⟩ := okWide_struct Try.underlying25 (hval 0 25 v0 rfl rfl)
  obtain ⟨fuel0, hf0⟩ := h0
  obtain ⟨x0, S0, G0⟩ := fitT_ok (O := OX NoX [] []) (fun b => own_none) 20 25 ((.prod (.list (.prod .str (.prod (.list .str) (.list (.prod .str (.prod (.int .i64) (.prod (.int .i64) .str))))))) (.list (.prod .str (.prod .str (.prod .str (.prod (.list .str) (.list (.prod .str (.prod (.int .i64) (.prod (.int .i64) .str))))))))))) (by kernel_rfl) fuel0 _ _ hf0 (fun m hm => by have hq := weights_each hsz (j := 0) (t := 25) rfl rfl m hm; exact of_decide_eq_true hq)
  obtain ⟨K, hk⟩ := pure x0 G0
  have ha : AV1sR (OX NoX [] []) W [] [.agg (inj ((.prod (.list (.prod .str (.prod (.list .str) (.list (.prod .str (.prod (.int .i64) (.prod (.int .i64) .str))))))) (.list (.prod .str (.prod .str (.prod .str (.prod (.list .str) (.list (.prod .str (.prod (.int .i64) (.prod (.int .i64) .str))))))))))) x0)] (#[.agg cs0] : Array Value).toList := .cons (arg_agg S0) ⟨rfl, by simp⟩
  refine (law_calls (good Try.prog sg extok mix num K) (f := 11) (t := (true : Bool)) (b := true) hk rfl (fun O w ρ vals σ v h hv => bool_of h hv) ha).mono fun e W' ⟨he, hd⟩ => ?_
  have bel : Below W.heap.size W W' := hd
  subst he
  exact ⟨_, rfl, _, _, _, [], _, [], hW', trodAll_mk1 (shut_bool Try.underlying4 _), (trodAll_cons_mk (Below.trod laidOut (by kernel_rfl) (of_decide_eq_true (by kernel_rfl)) k0 bel lt0) trodAll_mk0), rfl, bel.frame _, fun h => by cases h⟩
theorem over (pure : Pure) : Rows.keysBackRow.holds Try.pinned (OpenSpec.ofChange Rows.keysBackSpec) :=
  OpenClaim.holds_of_wide 11 Try.f11 rfl rfl rfl rfl rfl rfl rfl ⟨rfl, rfl, rfl, rfl, rfl⟩ rfl rfl rfl rfl rfl (by kernel_rfl) Try.func11 (by kernel_rfl)
    (of_decide_eq_true (by kernel_rfl)) (by unfold Func.isWrapper; first | (rw [if_pos (by decide +kernel)]; kernel_rfl) | (rw [if_neg (by decide +kernel)]; exact ⟨rfl, rfl⟩))
    (fun os started H enc _ => lifted pure os started H enc)
theorem proved (pure : Pure) : Rows.KeysBackSaid := over pure
end Go.Proofs.Ytdblhdpnllckhaa.AE.keysBack
end
