/- The evaluator of the program's form, its soundness, the functions of the given program as it evaluates them, and laws on these. Conditions: as each theorem says. -/
import Derived.Test.YtmnadajjgnniaaaCKeysTakeN3
import Derived.Laws.BitsLemmas
import Derived.Test.YtmnadajjgnniaaaRows
import Derived.Test.YtmnadajjgnniaaaCKeysTakeN2
import Derived.WalkKit
import Derived.ProofKit
import Derived.OpenShut
import Derived.ShutString
import Derived.ChangeOld
import Derived.Below
import Derived.SizedLaws
section
set_option linter.unusedVariables false
set_option linter.unusedSimpArgs false
namespace Go.Proofs.Ytmnadajjgnniaaa.AE
open Go

theorem scanI_zero {step : Nat → Option Int} (hs : ∀ i r, step i = some r → r ≠ 0) : ∀ d i, scanI step d i = 0 → ∀ j, i ≤ j → j < i + d → step j = none
  | 0, i, _, j, h1, h2 => by omega
  | d + 1, i, h, j, h1, h2 => by
    rw [scanI_succ] at h
    cases hq : step i with
    | some r => rw [hq] at h; exact absurd h (hs i r hq)
    | none =>
      rw [hq] at h
      by_cases hij : j = i
      · rw [hij]; exact hq
      · exact scanI_zero hs d (i + 1) h j (by omega) (by omega)
theorem propStep_ne (l : List TProp) (i : Nat) (r : Int) (h : propStep l i = some r) : r ≠ 0 := by
  unfold propStep at h
  split at h
  · injection h with h; omega
  · split at h
    · injection h with h; omega
    · cases h
theorem textStep_ne (l : List ByteArray) (i : Nat) (r : Int) (h : textStep l i = some r) : r ≠ 0 := by
  unfold textStep at h
  split at h
  · injection h with h; omega
  · split at h
    · injection h with h; omega
    · cases h
theorem nameB_size {s : ByteArray} (h : nameB s = true) : 1 ≤ s.size ∧ s.size ≤ 12 := by
  unfold nameB at h
  simp at h
  exact ⟨h.1.1, h.1.2⟩
theorem textStep_none {l : List ByteArray} {i : Nat} (h : textStep l i = none) : nameB (rd .str l i) = true ∧ (0 < i → strLt (rd .str l (i - 1)) (rd .str l i) = true) := by
  unfold textStep at h
  split at h
  · cases h
  · rename_i h1
    split at h
    · cases h
    · rename_i h2
      refine ⟨by simpa using h1, fun h0 => ?_⟩
      cases hq : strLt (rd .str l (i - 1)) (rd .str l i) with
      | true => rfl
      | false => exact absurd ⟨h0, hq⟩ h2
theorem propStep_none {l : List TProp} {i : Nat} (h : propStep l i = none) : nameB (rd sProp l i).1 = true ∧ valueB (rd sProp l i).2 = true ∧ (0 < i → strLt (rd sProp l (i - 1)).1 (rd sProp l i).1 = true) := by
  unfold propStep at h
  split at h
  · cases h
  · rename_i h1
    split at h
    · cases h
    · rename_i h2
      have h3 : nameB (rd sProp l i).1 = true ∧ valueB (rd sProp l i).2 = true := by simpa using h1
      refine ⟨h3.1, h3.2, fun h0 => ?_⟩
      cases hq : strLt (rd sProp l (i - 1)).1 (rd sProp l i).1 with
      | true => rfl
      | false => exact absurd ⟨h0, hq⟩ h2
/-- What a row of names, of properties that may be is. -/
theorem rowN_zero {l : List ByteArray} (h : rowN l = 0) {i : Nat} (hi : i < l.length) : nameB (rd .str l i) = true ∧ (0 < i → strLt (rd .str l (i - 1)) (rd .str l i) = true) :=
  textStep_none (scanI_zero (textStep_ne l) l.length 0 h i (by omega) (by omega))
theorem propsN_len {l : List TProp} (h : propsN l = 0) : l.length ≤ 8 := by
  unfold propsN at h
  split at h
  · omega
  · omega
theorem propsN_zero {l : List TProp} (h : propsN l = 0) {i : Nat} (hi : i < l.length) : nameB (rd sProp l i).1 = true ∧ valueB (rd sProp l i).2 = true ∧ (0 < i → strLt (rd sProp l (i - 1)).1 (rd sProp l i).1 = true) := by
  have h8 := propsN_len h
  unfold propsN at h
  rw [if_neg (by omega)] at h
  exact propStep_none (scanI_zero (propStep_ne l) l.length 0 h i (by omega) (by omega))
theorem restN_zero {a : List ByteArray} {l : List TProp} (h : restN a l = 0) : a.length ≤ 8 ∧ rowN a = 0 ∧ propsN l = 0 := by
  unfold restN at h
  split at h
  · omega
  · split at h
    · rename_i h1 h2
      exact ⟨by omega, h2, h⟩
    · rename_i h1 h2
      exact absurd h h2

/-- Texts' bytes, one behind the other; properties'. -/
def catT (l : List ByteArray) : Nat → Nat → ByteArray
  | 0, _ => ⟨#[]⟩
  | d + 1, i => textB (rd .str l i) ++ catT l d (i + 1)
def propB (p : TProp) : ByteArray := textB p.1 ++ valB p.2
def catP (l : List TProp) : Nat → Nat → ByteArray
  | 0, _ => ⟨#[]⟩
  | d + 1, i => propB (rd sProp l i) ++ catP l d (i + 1)
def putB (a : List ByteArray) (l : List TProp) : ByteArray := numB a.length ++ (catT a a.length 0 ++ (numB l.length ++ catP l l.length 0))
theorem app_nil (s : ByteArray) : s ++ (⟨#[]⟩ : ByteArray) = s := by apply ByteArray.ext; simp
theorem nil_app (s : ByteArray) : (⟨#[]⟩ : ByteArray) ++ s = s := by apply ByteArray.ext; simp
/-- Labels and properties are as few and short as they may be. -/
structure Short (a : List ByteArray) (l : List TProp) : Prop where
  na : a.length ≤ 8
  nl : l.length ≤ 8
  ta : ∀ i, i < a.length → (rd .str a i).size ≤ 12
  tl : ∀ i, i < l.length → (rd sProp l i).1.size ≤ 12
theorem Short.of {a : List ByteArray} {l : List TProp} (h : restN a l = 0) : Short a l := by
  obtain ⟨h1, h2, h3⟩ := restN_zero h
  exact ⟨h1, propsN_len h3, fun i hi => (nameB_size (rowN_zero h2 hi).1).2, fun i hi => (nameB_size (propsN_zero h3 hi).1).2⟩
theorem propB_size (p : TProp) (h : p.1.size ≤ 12) : (propB p).size ≤ 102 := by
  unfold propB
  rw [ByteArray.size_append]
  have := textB_size p.1
  have := valB_size p.2
  omega
theorem rput_l1 (a : List ByteArray) (l : List TProp) (hs : Short a l) (hl : okProps l) : ∀ (d i : Nat) (out : ByteArray), i + d = l.length → out.size ≤ 1000 + 102 * i → V.pleachref25_put.l1111010 a l out (i : Int) = some (out ++ catP l d i)
  | 0, i, out, h, ho => by
    refine V.pleachref25_put.l1111010.of _ _ _ _ ?_
    unfold F.pleachref25_put.l1111010.B
    rw [if_out (by omega)]
    simp [catP, app_nil]
  | d + 1, i, out, h, ho => by
    refine V.pleachref25_put.l1111010.of _ _ _ _ ?_
    unfold F.pleachref25_put.l1111010.B
    have hi : i < l.length := by omega
    have h8 := hs.nl
    have hp := propB_size _ (hs.tl i hi)
    have hk := hl.2 _ (rd_mem (e := sProp) hi)
    have h1 : (textB (rd sProp l i).1 ++ valB (rd sProp l i).2).size ≤ 102 := hp
    rw [ByteArray.size_append] at h1
    rw [if_in hi, guard_in hi, guard_in hi, nat_cast, refPutText_ok _ hk.1, Option.bind_some, guard_dec (by unfold i64max; omega), refVPut_ok _ hk.2.2, Option.bind_some]
    rw [guard_dec (by rw [ByteArray.size_append]; unfold i64max; omega), w64_up hi hl.1, rput_l1 a l hs hl d (i + 1) _ (by omega) (by rw [ByteArray.size_append, ByteArray.size_append]; omega)]
    rw [ByteArray.append_assoc, ByteArray.append_assoc, catP, propB, ByteArray.append_assoc]
theorem rput_l0 (a : List ByteArray) (l : List TProp) (hs : Short a l) (ha : okTexts a) (hl : okProps l) : ∀ (d i : Nat) (out : ByteArray), i + d = a.length → out.size ≤ 10 + 22 * i → V.pleachref25_put.l11010 a l out (i : Int) = some (out ++ (catT a d i ++ (numB l.length ++ catP l l.length 0)))
  | 0, i, out, h, ho => by
    refine V.pleachref25_put.l11010.of _ _ _ _ ?_
    unfold F.pleachref25_put.l11010.B
    have h8 := hs.nl
    have h9 := hs.na
    have hn := numB_size l.length
    rw [if_out (by omega), refPutNum_ok _ hl.1, Option.bind_some, guard_dec (by unfold i64max; omega)]
    have := rput_l1 a l hs hl l.length 0 (out ++ numB l.length) (by omega) (by rw [ByteArray.size_append]; omega)
    rw [show (0 : Int) = ((0 : Nat) : Int) from rfl, this]
    simp [catT, nil_app, ByteArray.append_assoc]
  | d + 1, i, out, h, ho => by
    refine V.pleachref25_put.l11010.of _ _ _ _ ?_
    unfold F.pleachref25_put.l11010.B
    have hi : i < a.length := by omega
    have h9 := hs.na
    have ht := textB_size (rd .str a i)
    have h12 := hs.ta i hi
    rw [if_in hi, guard_in hi, nat_cast, refPutText_ok _ (ha.2 _ (rd_mem (e := .str) hi)), Option.bind_some, guard_dec (by unfold i64max; omega), w64_up hi ha.1, rput_l0 a l hs ha hl d (i + 1) _ (by omega) (by rw [ByteArray.size_append]; omega)]
    rw [catT, ByteArray.append_assoc, ByteArray.append_assoc]
theorem ref_put_ok (a : List ByteArray) (l : List TProp) (hs : Short a l) (ha : okTexts a) (hl : okProps l) : V.pleachref25_put a l = some (putB a l) := by
  refine V.pleachref25_put.of _ _ ?_
  unfold F.pleachref25_put.B
  rw [refPutNum_ok _ ha.1, Option.bind_some]
  exact rput_l0 a l hs ha hl a.length 0 _ (by omega) (by have := numB_size a.length; omega)

/-! ### Nodes and edges -/

structure okNode (n : TNode) : Prop where
  id : n.1.size ≤ 140737488351232
  la : okTexts n.2.1
  pr : okProps n.2.2
structure okEdge (x : TEdge) : Prop where
  id : x.1.size ≤ 140737488351232
  fr : x.2.1.size ≤ 140737488351232
  to : x.2.2.1.size ≤ 140737488351232
  la : okTexts x.2.2.2.1
  pr : okProps x.2.2.2.2
def nodeN (n : TNode) : Int := if nameB n.1 then restN n.2.1 n.2.2 else 2
def nodeB (n : TNode) : ByteArray := if nodeN n = 0 then putB n.2.1 n.2.2 else ⟨#[]⟩
def edgeN (x : TEdge) : Int := if nameB x.1 && nameB x.2.1 && nameB x.2.2.1 then restN x.2.2.2.1 x.2.2.2.2 else 2
def edgeB (x : TEdge) : ByteArray := if edgeN x = 0 then textB x.2.1 ++ textB x.2.2.1 ++ putB x.2.2.2.1 x.2.2.2.2 else ⟨#[]⟩
theorem nodeN_short {n : TNode} (h : nodeN n = 0) : Short n.2.1 n.2.2 := by
  unfold nodeN at h
  split at h
  · exact .of h
  · cases h
theorem edgeN_short {x : TEdge} (h : edgeN x = 0) : (nameB x.2.1 = true ∧ nameB x.2.2.1 = true) ∧ Short x.2.2.2.1 x.2.2.2.2 := by
  unfold edgeN at h
  split at h
  · rename_i g
    simp only [Bool.and_eq_true] at g
    exact ⟨⟨g.1.2, g.2⟩, .of h⟩
  · cases h
theorem CheckNode_ok (n : TNode) (h : okNode n) : V.elem_CheckNode n = some (nodeN n) := by
  refine V.elem_CheckNode.of _ ?_
  unfold F.elem_CheckNode.B nodeN
  rw [name_Check_ok _ h.id, Option.bind_some, rest_ok _ _ h.la h.pr]
  cases nameB n.1 <;> simp
theorem refNode_ok (n : TNode) (h : okNode n) : V.pleachref25_Node n = some (nodeN n) := by
  refine V.pleachref25_Node.of _ ?_
  unfold F.pleachref25_Node.B nodeN
  rw [refIs_ok _ h.id, Option.bind_some, refRest_ok _ _ h.la h.pr]
  cases nameB n.1 <;> simp
theorem refPutNode_ok (n : TNode) (h : okNode n) : V.pleachref25_PutNode n = some (nodeB n) := by
  refine V.pleachref25_PutNode.of _ ?_
  unfold F.pleachref25_PutNode.B nodeB
  have hc := refNode_ok n h
  rw [show (n.1, n.2.1, n.2.2) = n from rfl, hc, Option.bind_some]
  by_cases h0 : nodeN n = 0
  · rw [ref_put_ok _ _ (nodeN_short h0) h.la h.pr]
    simp [h0]
  · simp [Bool.cond_eq_ite, h0]
theorem CheckEdge_ok (x : TEdge) (h : okEdge x) : V.elem_CheckEdge x = some (edgeN x) := by
  have e3 : V.elem_CheckEdge.l1010 x 3 = some (restN x.2.2.2.1 x.2.2.2.2) := by
    refine V.elem_CheckEdge.l1010.of _ _ ?_
    unfold F.elem_CheckEdge.l1010.B
    rw [rest_ok _ _ h.la h.pr]
    simp
  have e2 : V.elem_CheckEdge.l1010 x 2 = some (if nameB x.2.2.1 then restN x.2.2.2.1 x.2.2.2.2 else 2) := by
    refine V.elem_CheckEdge.l1010.of _ _ ?_
    unfold F.elem_CheckEdge.l1010.B
    rw [w64_id (by omega) (by omega), show (2 : Int) + 1 = 3 from rfl, e3, name_Check_ok _ h.to]
    cases nameB x.2.2.1 <;> simp
  have e1 : V.elem_CheckEdge.l1010 x 1 = some (if nameB x.2.1 && nameB x.2.2.1 then restN x.2.2.2.1 x.2.2.2.2 else 2) := by
    refine V.elem_CheckEdge.l1010.of _ _ ?_
    unfold F.elem_CheckEdge.l1010.B
    rw [w64_id (by omega) (by omega), show (1 : Int) + 1 = 2 from rfl, e2, name_Check_ok _ h.fr]
    cases nameB x.2.1 <;> simp
  have e0 : V.elem_CheckEdge.l1010 x 0 = some (edgeN x) := by
    refine V.elem_CheckEdge.l1010.of _ _ ?_
    unfold F.elem_CheckEdge.l1010.B edgeN
    rw [w64_id (by omega) (by omega), show (0 : Int) + 1 = 1 from rfl, e1, name_Check_ok _ h.id]
    cases nameB x.1 <;> simp
  refine V.elem_CheckEdge.of _ ?_
  unfold F.elem_CheckEdge.B
  exact e0
theorem refEdge_ok (x : TEdge) (h : okEdge x) : V.pleachref25_Edge x = some (edgeN x) := by
  refine V.pleachref25_Edge.of _ ?_
  unfold F.pleachref25_Edge.B edgeN
  rw [refIs_ok _ h.id, Option.bind_some, refIs_ok _ h.fr, refIs_ok _ h.to, refRest_ok _ _ h.la h.pr]
  cases nameB x.1 <;> cases nameB x.2.1 <;> cases nameB x.2.2.1 <;> simp
theorem putB_bound {a : List ByteArray} {l : List TProp} (hs : Short a l) : (putB a l).size ≤ 1100 := by
  have hT : ∀ d i, i + d = a.length → (catT a d i).size ≤ 22 * d := by
    intro d
    induction d with
    | zero => intro i _; simp [catT, ByteArray.size]
    | succ d ih =>
      intro i hi
      have := ih (i + 1) (by omega)
      have ht := textB_size (rd .str a i)
      have := hs.ta i (by omega)
      rw [catT, ByteArray.size_append]
      omega
  have hP : ∀ d i, i + d = l.length → (catP l d i).size ≤ 102 * d := by
    intro d
    induction d with
    | zero => intro i _; simp [catP, ByteArray.size]
    | succ d ih =>
      intro i hi
      have := ih (i + 1) (by omega)
      have ht := propB_size _ (hs.tl i (by omega))
      rw [catP, ByteArray.size_append]
      omega
  have h1 := hT a.length 0 (by omega)
  have h2 := hP l.length 0 (by omega)
  have h3 := numB_size a.length
  have h4 := numB_size l.length
  have := hs.na
  have := hs.nl
  unfold putB
  rw [ByteArray.size_append, ByteArray.size_append, ByteArray.size_append]
  omega
theorem refPutEdge_ok (x : TEdge) (h : okEdge x) : V.pleachref25_PutEdge x = some (edgeB x) := by
  refine V.pleachref25_PutEdge.of _ ?_
  unfold F.pleachref25_PutEdge.B edgeB
  have hc := refEdge_ok x h
  rw [show (x.1, x.2.1, x.2.2.1, x.2.2.2.1, x.2.2.2.2) = x from rfl, hc, Option.bind_some]
  by_cases h0 : edgeN x = 0
  · obtain ⟨⟨n1, n2⟩, hs⟩ := edgeN_short h0
    have t1 := textB_size x.2.1
    have t2 := textB_size x.2.2.1
    have n1 := nameB_size n1
    have n2 := nameB_size n2
    have pb := putB_bound hs
    rw [ref_put_ok _ _ hs h.la h.pr, refPutText_ok _ h.fr, refPutText_ok _ h.to]
    simp only [Option.bind_some]
    rw [guard_dec (by unfold i64max; omega), guard_dec (by rw [ByteArray.size_append]; unfold i64max; omega)]
    simp [h0]
  · simp [Bool.cond_eq_ite, h0]
end Go.Proofs.Ytmnadajjgnniaaa.AE
end
section
set_option linter.unusedVariables false
set_option linter.unusedSimpArgs false
set_option maxRecDepth 4000
namespace Go.Proofs.Ytmnadajjgnniaaa.AE
open Go

theorem bt_range (s : ByteArray) (i : Int) : 0 ≤ byteAt s i ∧ byteAt s i < 256 := by
  unfold byteAt
  have := UInt8.toNat_lt (s.data.toList.getD i.toNat 0)
  omega
/-! lists of bytes that are one number's -/
def dg : List Int → Nat
  | [] => 0
  | c :: r => (c % 128).toNat + 128 * dg r
/-- All but the last bear a mark. -/
def contB : List Int → Bool
  | [] => false
  | [c] => decide (c < 128)
  | c :: d :: r => decide (128 ≤ c) && contB (d :: r)
def lastOk : List Int → Bool
  | [] => false
  | [_] => true
  | _ :: d :: r => decide (0 < r.getLastD d)
def isBytes (l : List Int) : Prop := ∀ x ∈ l, 0 ≤ x ∧ x < 256
theorem vput_bytes : ∀ f n, isBytes (vput f n)
  | 0, n => by intro x hx; simp [vput] at hx
  | f + 1, n => by
    unfold vput
    split
    · intro x hx; simp at hx; omega
    · intro x hx
      simp at hx
      rcases hx with rfl | hx
      · omega
      · exact vput_bytes f (n / 128) x hx
theorem contB_vput : ∀ f n, n < 128 ^ (f + 1) → contB (vput (f + 1) n) = true
  | 0, n, h => by
    have : n < 128 := by simpa using h
    simp [vput, this, contB]
    omega
  | f + 1, n, h => by
    unfold vput
    split
    · simp [contB]; omega
    · have ih := contB_vput f (n / 128) (by rw [Nat.pow_succ] at h; exact Nat.div_lt_of_lt_mul (by omega))
      have hp := vput_pos f (n / 128)
      cases hv : vput (f + 1) (n / 128) with
      | nil => rw [hv] at hp; simp at hp
      | cons d r =>
        rw [hv] at ih
        simp [contB, ih]
        omega
theorem dg_vput : ∀ f n, n < 128 ^ f → dg (vput f n) = n
  | 0, n, h => by simp at h; simp [vput, dg, h]
  | f + 1, n, h => by
    unfold vput
    split
    · simp [dg]; omega
    · have ih := dg_vput f (n / 128) (by rw [Nat.pow_succ] at h; exact Nat.div_lt_of_lt_mul (by omega))
      simp only [dg, ih]
      omega
theorem vput_last : ∀ f n, n < 128 ^ (f + 1) → lastOk (vput (f + 1) n) = true
  | 0, n, h => by
    have : n < 128 := by simpa using h
    simp [vput, this, lastOk]
  | f + 1, n, h => by
    unfold vput
    split
    · simp [lastOk]
    · have hn : n / 128 < 128 ^ (f + 1) := by rw [Nat.pow_succ] at h; exact Nat.div_lt_of_lt_mul (by omega)
      have ih := vput_last f (n / 128) hn
      have hp := vput_pos f (n / 128)
      have hd := dg_vput (f + 1) (n / 128) hn
      have hc := contB_vput f (n / 128) hn
      cases hv : vput (f + 1) (n / 128) with
      | nil => rw [hv] at hp; simp at hp
      | cons d r =>
        rw [hv] at ih hd hc
        cases r with
        | nil =>
          have hb := vput_bytes (f + 1) (n / 128) d (by rw [hv]; simp)
          simp [lastOk]
          simp [dg] at hd
          simp [contB] at hc
          omega
        | cons e r =>
          simp only [lastOk, List.getLastD_cons] at ih ⊢
          exact ih
theorem vput_dg : ∀ (l : List Int) (f : Nat), l.length ≤ f → isBytes l → contB l = true → lastOk l = true → vput f (dg l) = l
  | [], f, _, _, h, _ => by simp [contB] at h
  | [c], f, hf, hb, hc, _ => by
    obtain ⟨f, rfl⟩ : ∃ m, f = m + 1 := ⟨f - 1, by simp at hf; omega⟩
    have := hb c (by simp)
    simp [contB] at hc
    have h1 : (c % 128).toNat = c.toNat := by omega
    have h2 : c.toNat < 128 := by omega
    simp [dg, vput, h1, h2]
    omega
  | c :: d :: r, f, hf, hb, hc, hl => by
    obtain ⟨f, rfl⟩ : ∃ m, f = m + 1 := ⟨f - 1, by simp at hf; omega⟩
    have hbc := hb c (by simp)
    simp [contB] at hc
    have hpos : 0 < dg (d :: r) ∧ lastOk (d :: r) = true := by
      simp only [lastOk, decide_eq_true_eq] at hl
      constructor
      · have : ∀ (q : List Int) (x : Int), isBytes (x :: q) → contB (x :: q) = true → 0 < q.getLastD x → 0 < dg (x :: q) := by
          intro q
          induction q with
          | nil =>
            intro x hb hc hp
            simp [contB] at hc
            simp at hp
            simp [dg]
            omega
          | cons y q ih =>
            intro x hb hc hp
            simp [contB] at hc
            rw [List.getLastD_cons] at hp
            have := ih y (fun z hz => hb z (by simp at hz ⊢; right; exact hz)) hc.2 hp
            have hdg : dg (x :: y :: q) = (x % 128).toNat + 128 * dg (y :: q) := rfl
            omega
        exact this r d (fun z hz => hb z (by simp at hz ⊢; right; exact hz)) hc.2 hl
      · cases r with
        | nil => rfl
        | cons e r =>
          rw [List.getLastD_cons] at hl
          simp only [lastOk, decide_eq_true_eq]
          exact hl
    have ih := vput_dg (d :: r) f (by simp at hf ⊢; omega) (fun z hz => hb z (by simp at hz ⊢; right; exact hz)) hc.2 hpos.2
    have hdg : dg (c :: d :: r) = (c % 128).toNat + 128 * dg (d :: r) := rfl
    have hge : ¬ dg (c :: d :: r) < 128 := by omega
    rw [vput, if_neg hge]
    have h3 : dg (c :: d :: r) / 128 = dg (d :: r) := by omega
    rw [h3, ih]
    congr 1
    omega
theorem dg_bound : ∀ (l : List Int), isBytes l → dg l < 128 ^ l.length
  | [], _ => by simp [dg]
  | c :: r, hb => by
    have ih := dg_bound r (fun z hz => hb z (by simp [hz]))
    have := hb c (by simp)
    simp only [dg, List.length_cons, Nat.pow_succ]
    omega
theorem bytesOf_inj : ∀ (a b : List Int), isBytes a → isBytes b → bytesOf a = bytesOf b → a = b := by
  intro a b ha hb h
  have h1 : (a.map fun n => UInt8.ofNat n.toNat) = (b.map fun n => UInt8.ofNat n.toNat) := by
    have : (bytesOf a).data.toList = (bytesOf b).data.toList := by rw [h]
    simpa [bytesOf] using this
  have h2 : ∀ (a b : List Int), isBytes a → isBytes b → (a.map fun n => UInt8.ofNat n.toNat) = (b.map fun n => UInt8.ofNat n.toNat) → a = b := by
    intro a
    induction a with
    | nil => intro b _ _ h; cases b with | nil => rfl | cons y b => simp at h
    | cons x a ih =>
      intro b ha hb h
      cases b with
      | nil => simp at h
      | cons y b =>
        simp only [List.map_cons, List.cons.injEq] at h
        have hx := ha x (by simp)
        have hy := hb y (by simp)
        have e := congrArg UInt8.toNat h.1
        simp [UInt8.toNat_ofNat'] at e
        rw [ih b (fun z hz => ha z (by simp [hz])) (fun z hz => hb z (by simp [hz])) h.2]
        congr 1
        omega
  exact h2 a b ha hb h1
/-- d bytes from place i on. -/
def bl (s : ByteArray) : Nat → Nat → List Int
  | 0, _ => []
  | d + 1, i => byteAt s (i : Int) :: bl s d (i + 1)
theorem bl_len (s : ByteArray) : ∀ d i, (bl s d i).length = d
  | 0, _ => rfl
  | d + 1, i => by simp [bl, bl_len s d (i + 1)]
theorem bl_bytes (s : ByteArray) : ∀ d i, isBytes (bl s d i)
  | 0, _ => by intro x hx; simp [bl] at hx
  | d + 1, i => by
    intro x hx
    simp [bl] at hx
    rcases hx with rfl | hx
    · have := bt_range s (i : Int); omega
    · exact bl_bytes s d (i + 1) x hx
theorem bl_snoc (s : ByteArray) : ∀ d i, bl s (d + 1) i = bl s d i ++ [byteAt s ((i + d : Nat) : Int)]
  | 0, i => by simp [bl]
  | d + 1, i => by
    have := bl_snoc s d (i + 1)
    rw [bl, this, bl]
    simp
    congr 1
    omega
theorem bt_of (s : ByteArray) (i : Nat) (h : i < s.size) : UInt8.ofNat (byteAt s (i : Int)).toNat = s.data.toList[i]'(by rw [Array.length_toList]; exact h) := by
  rw [bt_data s i h, Int.toNat_natCast, UInt8.ofNat_toNat]
theorem bytesOf_bl (s : ByteArray) : ∀ d, d ≤ s.size → bytesOf (bl s d 0) = s.extract 0 d
  | 0, _ => by
    apply ByteArray.ext
    simp [bl, bytesOf]
  | d + 1, h => by
    have ih := bytesOf_bl s d (by omega)
    rw [bl_snoc, strOfNums_append, ih, Nat.zero_add]
    apply ByteArray.ext
    apply Array.ext'
    have hl : s.data.toList.length = s.size := by rw [Array.length_toList]; rfl
    simp only [bytesOf, ByteArray.data_append, ByteArray.data_extract, Array.toList_append, Array.toList_extract, List.map_cons, List.map_nil, List.extract_eq_take_drop, List.drop_zero, Nat.sub_zero]
    rw [List.take_succ_eq_append_getElem (by omega), bt_of s d (by omega)]
theorem dg_snoc : ∀ (l : List Int) (c : Int), dg (l ++ [c]) = dg l + 128 ^ l.length * (c % 128).toNat
  | [], c => by simp [dg]
  | d :: l, c => by
    simp only [List.cons_append, dg, dg_snoc l c, List.length_cons, Nat.pow_succ, Nat.mul_add]
    have : 128 * (128 ^ l.length * (c % 128).toNat) = 128 ^ l.length * 128 * (c % 128).toNat := by
      rw [← Nat.mul_assoc, Nat.mul_comm 128]
    omega
theorem contB_bl (s : ByteArray) (e : Nat) (h1 : ∀ j, j < e → 128 ≤ byteAt s (j : Int)) (h2 : byteAt s (e : Int) < 128) : ∀ d i, i + d = e → contB (bl s (d + 1) i) = true
  | 0, i, h => by
    obtain rfl : i = e := by omega
    simp [bl, contB, h2]
  | d + 1, i, h => by
    have ih := contB_bl s e h1 h2 d (i + 1) (by omega)
    have e1 : bl s (d + 1 + 1) i = byteAt s (i : Int) :: byteAt s ((i + 1 : Nat) : Int) :: bl s d (i + 1 + 1) := rfl
    have e2 : bl s (d + 1) (i + 1) = byteAt s ((i + 1 : Nat) : Int) :: bl s d (i + 1 + 1) := rfl
    rw [e2] at ih
    rw [e1]
    simp [contB, h1 i (by omega)]
    simpa using ih
theorem getLastD_bl (s : ByteArray) : ∀ d i (a : Int), (bl s d i).getLastD a = if d = 0 then a else byteAt s ((i + d - 1 : Nat) : Int)
  | 0, i, a => by simp [bl]
  | d + 1, i, a => by
    rw [bl_snoc, List.getLastD_concat, if_neg (by omega)]
    congr 1
theorem lastOk_bl (s : ByteArray) (e : Nat) : lastOk (bl s (e + 1) 0) = (decide (e = 0) || decide (0 < byteAt s (e : Int))) := by
  cases e with
  | zero => simp [bl, lastOk]
  | succ e =>
    have e1 : bl s (e + 1 + 1) 0 = byteAt s ((0 : Nat) : Int) :: byteAt s ((1 : Nat) : Int) :: bl s e 2 := rfl
    rw [e1]
    simp only [lastOk, getLastD_bl]
    cases e with
    | zero => simp
    | succ e =>
      have : 2 + (e + 1) - 1 = e + 1 + 1 := by omega
      simp [this]
/-- The first place, from i on within d places, of a byte without a mark. -/
def endAt (s : ByteArray) : Nat → Nat → Option Nat
  | 0, _ => none
  | d + 1, i => if 128 ≤ byteAt s (i : Int) then endAt s d (i + 1) else some i
theorem endAt_some (s : ByteArray) : ∀ d i e, endAt s d i = some e → i ≤ e ∧ e < i + d ∧ byteAt s (e : Int) < 128 ∧ ∀ j, i ≤ j → j < e → 128 ≤ byteAt s (j : Int)
  | 0, i, e, h => by simp [endAt] at h
  | d + 1, i, e, h => by
    unfold endAt at h
    split at h
    · rename_i hb
      obtain ⟨h1, h2, h3, h4⟩ := endAt_some s d (i + 1) e h
      refine ⟨by omega, by omega, h3, fun j hj1 hj2 => ?_⟩
      by_cases hij : j = i
      · rw [hij]; exact hb
      · exact h4 j (by omega) hj2
    · injection h with h
      subst h
      exact ⟨by omega, by omega, by omega, fun j h1 h2 => by omega⟩
theorem endAt_none (s : ByteArray) : ∀ d i, endAt s d i = none → ∀ j, i ≤ j → j < i + d → 128 ≤ byteAt s (j : Int)
  | 0, i, _, j, h1, h2 => by omega
  | d + 1, i, h, j, h1, h2 => by
    unfold endAt at h
    split at h
    · rename_i hb
      by_cases hij : j = i
      · rw [hij]; exact hb
      · exact endAt_none s d (i + 1) h j (by omega) (by omega)
    · cases h
/-- The number with which bytes begin, how many bytes it has, and whether there is one. -/
def getB (s : ByteArray) : Int × Int × Bool :=
  match endAt s s.size 0 with
  | none => (0, 0, false)
  | some e => if e ≤ 9 ∧ (e = 9 → byteAt s (e : Int) ≤ 1) ∧ (e = 0 ∨ 0 < byteAt s (e : Int)) then ((dg (bl s (e + 1) 0) : Int), (e : Int) + 1, true) else (0, 0, false)
theorem wraps_u64 (n : Int) (h₀ : 0 ≤ n) (h₁ : n < 2 ^ 64) : IntKind.u64.wrap n = n := u64_id h₀ (by omega)
theorem or_add (a c m : Nat) (ha : a < 2 ^ m) (hm : m ≤ 63) (hs : a + c * 2 ^ m < 2 ^ 64) : Go.bits .or .u64 (a : Int) ((c * 2 ^ m : Nat) : Int) = ((a + c * 2 ^ m : Nat) : Int) := by
  have hc : c * 2 ^ m < 2 ^ 64 := by omega
  have ha' : a < 2 ^ 64 := Nat.lt_of_lt_of_le ha (Nat.pow_le_pow_right (by omega) (by omega))
  rw [(Go.bits_nat .u64 64 (by decide) wraps_u64 a (c * 2 ^ m) ha' hc).2]
  congr 1
  rw [Nat.or_comm, Nat.mul_comm c, ← Nat.two_pow_add_eq_or_of_lt ha, Nat.add_comm]
theorem and_127 (c : Int) (h0 : 0 ≤ c) (h1 : c < 256) : Go.bits .and .u64 c 127 = c % 128 := by
  have := Go.bits_mask .u64 64 (by decide) wraps_u64 7 (by omega) c h0 (by omega)
  simpa using this
theorem shl_u64 (x m : Nat) (hm : m ≤ 63) (hs : x * 2 ^ m < 2 ^ 64) : IntKind.wrap .u64 ((x : Int) * 2 ^ (min (m : Int).toNat 64)) = ((x * 2 ^ m : Nat) : Int) := by
  have e : min ((m : Int).toNat) 64 = m := by simp; omega
  rw [e]
  have e2 : (x : Int) * 2 ^ m = ((x * 2 ^ m : Nat) : Int) := by simp
  rw [e2]
  exact u64_id (by omega) (by omega)
theorem endAt_is (s : ByteArray) (i : Nat) (hi : i < s.size) (hm : ∀ j, j < i → 128 ≤ byteAt s (j : Int)) (hc : byteAt s (i : Int) < 128) : endAt s s.size 0 = some i := by
  cases h : endAt s s.size 0 with
  | none => have := endAt_none s s.size 0 h i (by omega) (by omega); omega
  | some e =>
    obtain ⟨_, h2, h3, h4⟩ := endAt_some s s.size 0 e h
    rcases Nat.lt_trichotomy e i with h5 | h5 | h5
    · have := hm e h5; omega
    · rw [h5]
    · have := h4 i (by omega) h5; omega
theorem endAt_far (s : ByteArray) (i : Nat) (hm : ∀ j, j < i → 128 ≤ byteAt s (j : Int)) (e : Nat) (h : endAt s s.size 0 = some e) : i ≤ e := by
  obtain ⟨_, h2, h3, h4⟩ := endAt_some s s.size 0 e h
  rcases Nat.lt_or_ge e i with h5 | h5
  · have := hm e h5; omega
  · exact h5
theorem getB_far (s : ByteArray) (i : Nat) (hi : 10 ≤ i ∨ s.size ≤ i) (hm : ∀ j, j < i → 128 ≤ byteAt s (j : Int)) : getB s = (0, 0, false) := by
  unfold getB
  cases h : endAt s s.size 0 with
  | none => rfl
  | some e =>
    have h1 := endAt_far s i hm e h
    obtain ⟨_, h2, _, _⟩ := endAt_some s s.size 0 e h
    have : ¬ e ≤ 9 := by omega
    simp [this]
theorem getB_is (s : ByteArray) (i : Nat) (hi : i < s.size) (hm : ∀ j, j < i → 128 ≤ byteAt s (j : Int)) (hc : byteAt s (i : Int) < 128) :
    getB s = if i ≤ 9 ∧ (i = 9 → byteAt s (i : Int) ≤ 1) ∧ (i = 0 ∨ 0 < byteAt s (i : Int)) then ((dg (bl s (i + 1) 0) : Int), (i : Int) + 1, true) else (0, 0, false) := by
  unfold getB
  rw [endAt_is s i hi hm hc]
/-! the reference -/
/-- The remainder of 64 bits (under a name of its own, so that nobody counts). -/
def mod64 (n : Nat) : Nat := n % 18446744073709551616
theorem mod64_eq (n : Nat) : mod64 n = n % 18446744073709551616 := rfl
theorem mod64_lt (n : Nat) : mod64 n < 18446744073709551616 := by rw [mod64_eq]; omega
theorem mod64_small {n : Nat} (h : n < 18446744073709551616) : mod64 n = n := by rw [mod64_eq]; omega
theorem numB_is (n : Nat) (hn : n < 128 ^ 10) (s : ByteArray) (e : Nat) (he : e < s.size) (h9 : e ≤ 9) (hm : ∀ j, j < e → 128 ≤ byteAt s (j : Int)) (hc : byteAt s (e : Int) < 128) (h64 : n = mod64 (dg (bl s (e + 1) 0))) :
    ((numB n).toList = (s.extract 0 (e + 1)).toList) ↔ ((e = 9 → byteAt s (e : Int) ≤ 1) ∧ (e = 0 ∨ 0 < byteAt s (e : Int))) := by
  have hcont := contB_bl s e hm hc e 0 (by omega)
  have hlast := lastOk_bl s e
  have hlen := bl_len s (e + 1) 0
  have hby := bl_bytes s (e + 1) 0
  have hx := bytesOf_bl s (e + 1) (by omega)
  have hsn : dg (bl s (e + 1) 0) = dg (bl s e 0) + 128 ^ e * (byteAt s (e : Int) % 128).toNat := by
    rw [bl_snoc, dg_snoc, bl_len, Nat.zero_add]
  have hd := dg_bound (bl s e 0) (bl_bytes s e 0)
  rw [bl_len] at hd
  have hr := bt_range s (e : Int)
  have hv : (byteAt s (e : Int) % 128).toNat = (byteAt s (e : Int)).toNat := by omega
  constructor
  · intro h
    have h1 := bytes_ext h
    unfold numB at h1
    rw [← hx] at h1
    have h2 := bytesOf_inj _ _ (vput_bytes 10 n) hby h1
    have h3 : dg (bl s (e + 1) 0) = n := by rw [← h2]; exact dg_vput 10 n hn
    have h4 : lastOk (bl s (e + 1) 0) = true := by rw [← h2]; exact vput_last 9 n hn
    rw [hlast] at h4
    refine ⟨fun h9' => ?_, by simpa using h4⟩
    subst h9'
    rw [h3, hv] at hsn
    have : n < 18446744073709551616 := by rw [h64]; exact mod64_lt _
    have h5 : (byteAt s ((9 : Nat) : Int)).toNat ≤ 1 := by
      rcases Nat.lt_or_ge 1 (byteAt s ((9 : Nat) : Int)).toNat with h6 | h6
      · have : 128 ^ 9 * 2 ≤ 128 ^ 9 * (byteAt s ((9 : Nat) : Int)).toNat := Nat.mul_le_mul_left _ h6
        omega
      · exact h6
    omega
  · rintro ⟨h1, h2⟩
    have h4 : lastOk (bl s (e + 1) 0) = true := by rw [hlast]; simpa using h2
    have h5 := vput_dg (bl s (e + 1) 0) 10 (by omega) hby hcont h4
    have h6 : dg (bl s (e + 1) 0) < 18446744073709551616 := by
      by_cases he9 : e = 9
      · subst he9
        have := h1 rfl
        have : (byteAt s ((9 : Nat) : Int)).toNat ≤ 1 := by omega
        have : 128 ^ 9 * (byteAt s ((9 : Nat) : Int)).toNat ≤ 128 ^ 9 * 1 := Nat.mul_le_mul_left _ this
        rw [hsn, hv]
        omega
      · have := dg_bound (bl s (e + 1) 0) hby
        rw [hlen] at this
        have h7 : 128 ^ (e + 1) ≤ 128 ^ 9 := Nat.pow_le_pow_right (by omega) (by omega)
        omega
    have h7 : n = dg (bl s (e + 1) 0) := by rw [h64, mod64_small h6]
    unfold numB
    rw [h7, h5, hx]
theorem ref_mod (s : ByteArray) (i m : Nat) : IntKind.u64.wrap ((IntKind.u64.wrap (((mod64 (dg (bl s m (i + 1))) : Nat) : Int) * 128)) + (Int.tmod (IntKind.u64.wrap (byteAt s (i : Int))) 128)) = ((mod64 (dg (byteAt s (i : Int) :: bl s m (i + 1))) : Nat) : Int) := by
  have hr := bt_range s (i : Int)
  rw [u64_id (x := byteAt s (i : Int)) hr.1 (by omega), Int.tmod_eq_emod_of_nonneg hr.1, u64_mod, u64_mod, mod64_eq, mod64_eq]
  have : dg (byteAt s (i : Int) :: bl s m (i + 1)) = (byteAt s (i : Int) % 128).toNat + 128 * dg (bl s m (i + 1)) := rfl
  rw [this]
  generalize dg (bl s m (i + 1)) = D
  generalize byteAt s (i : Int) = c at hr ⊢
  omega
theorem lim70 {n : Nat} (h : n < 18446744073709551616) : n < 128 ^ 10 := by omega

theorem get_or (s : ByteArray) (i : Nat) (h9 : i ≤ 9) (hc : i = 9 → byteAt s (i : Int) ≤ 1) :
    IntKind.wrap .u64 ((BitVec.ofInt 64 ((dg (bl s i 0) : Nat) : Int) ||| BitVec.ofInt 64 (IntKind.wrap .u64 ((IntKind.wrap .u64 ((BitVec.ofInt 64 (IntKind.wrap .u64 (byteAt s (i : Int))) &&& BitVec.ofInt 64 127).toNat : Int)) * 2 ^ (min (w64 (7 * (i : Int))).toNat 64)))).toNat : Int) = ((dg (bl s (i + 1) 0) : Nat) : Int) := by
  have hr := bt_range s (i : Int)
  have hp : 128 ^ i = 2 ^ (7 * i) := by rw [show (128 : Nat) = 2 ^ 7 from rfl, ← Nat.pow_mul]
  have hd := dg_bound (bl s i 0) (bl_bytes s i 0)
  rw [bl_len, hp] at hd
  obtain ⟨x, hx⟩ : ∃ x : Nat, byteAt s (i : Int) % 128 = x := ⟨(byteAt s (i : Int) % 128).toNat, by omega⟩
  have hx2 : x ≤ 127 := by omega
  have hb : dg (bl s i 0) + x * 2 ^ (7 * i) < 2 ^ 64 ∧ x * 2 ^ (7 * i) < 2 ^ 64 := by
    by_cases h : i = 9
    · subst h
      have := hc rfl
      have : x ≤ 1 := by omega
      have : x * 2 ^ (7 * 9) ≤ 1 * 2 ^ (7 * 9) := Nat.mul_le_mul_right _ this
      omega
    · have h1 : 2 ^ (7 * i) ≤ 2 ^ 56 := Nat.pow_le_pow_right (by omega) (by omega)
      have : x * 2 ^ (7 * i) ≤ 127 * 2 ^ 56 := Nat.mul_le_mul hx2 h1
      omega
  have e1 : IntKind.wrap .u64 ((BitVec.ofInt 64 (IntKind.wrap .u64 (byteAt s (i : Int))) &&& BitVec.ofInt 64 127).toNat : Int) = (x : Int) := by
    rw [u64_id hr.1 (by omega), ← hx]
    exact and_127 _ hr.1 (by omega)
  rw [e1, w64_id (by omega) (by omega), show (7 * (i : Int)) = ((7 * i : Nat) : Int) by omega, shl_u64 x (7 * i) (by omega) hb.2]
  refine (or_add _ x (7 * i) hd (by omega) hb.1).trans ?_
  congr 1
  rw [bl_snoc, dg_snoc, bl_len, hp, Nat.zero_add, hx, Int.toNat_natCast, Nat.mul_comm]
theorem min10 (n : Nat) : (if (10 : Int) < (n : Int) then (10 : Int) else (n : Int)) = ((min n 10 : Nat) : Int) := by split <;> omega
theorem Get_l (s : ByteArray) (hs : s.size ≤ 140737488351232) : ∀ d i : Nat, i + d = min s.size 10 → (∀ j, j < i → 128 ≤ byteAt s (j : Int)) →
    V.varint_Get.l1010 s ((dg (bl s i 0) : Nat) : Int) (i : Int) = some (getB s)
  | 0, i, h, hm => by
    refine V.varint_Get.l1010.of _ _ _ ?_
    unfold F.varint_Get.l1010.B
    rw [min10, if_out (by omega), getB_far s i (by omega) hm]
  | d + 1, i, h, hm => by
    refine V.varint_Get.l1010.of _ _ _ ?_
    unfold F.varint_Get.l1010.B
    have hr := bt_range s (i : Int)
    have hi : i < s.size := by omega
    have ih : byteAt s (i : Int) ≥ 128 → V.varint_Get.l1010 s ((dg (bl s (i + 1) 0) : Nat) : Int) ((i + 1 : Nat) : Int) = some (getB s) := fun hc => Get_l s hs d (i + 1) (by omega) (fun j hj => by
      by_cases hij : j = i
      · rw [hij]; omega
      · exact hm j (by omega))
    have eu : IntKind.wrap .u64 (byteAt s (i : Int)) = byteAt s (i : Int) := u64_id hr.1 (by omega)
    rw [min10, if_in (by omega), guard_in hi]
    have e7 : w64 (7 * (i : Int)) = 7 * (i : Int) := w64_id (by omega) (by omega)
    have e8 : w64 ((i : Int) + 1) = ((i + 1 : Nat) : Int) := w64_up hi hs
    have rest : (i = 9 → byteAt s (i : Int) ≤ 1) → (if (w64 (7 * (i : Int))) < 0 then none else (bif (decide ((IntKind.wrap .u64 (byteAt s (i : Int))) ≥ 128)) then (V.varint_Get.l1010 s ((dg (bl s (i + 1) 0) : Nat) : Int) (w64 ((i : Int) + 1))) else (bif ((IntKind.wrap .u64 (byteAt s (i : Int))) == 0) then (bif (decide ((i : Int) > 0)) then (some (0, 0, false)) else (some (((dg (bl s (i + 1) 0) : Nat) : Int), (w64 ((i : Int) + 1)), true))) else (some (((dg (bl s (i + 1) 0) : Nat) : Int), (w64 ((i : Int) + 1)), true))))) = some (getB s) := by
      intro hc9
      rw [e7, e8, if_neg (by omega), eu]
      by_cases hc : byteAt s (i : Int) < 128
      · rw [if_no (by omega), getB_is s i hi hm hc]
        by_cases h0 : byteAt s (i : Int) = 0
        · rw [show (byteAt s (i : Int) == 0) = true by simp [h0], cond_true]
          by_cases hi0 : i = 0
          · rw [if_no (by omega), if_pos ⟨by omega, hc9, Or.inl hi0⟩]; rfl
          · rw [if_yes (by omega), if_neg (by rintro ⟨_, _, h3⟩; omega)]
        · rw [show (byteAt s (i : Int) == 0) = false by simp [h0], cond_false, if_pos ⟨by omega, hc9, Or.inr (by omega)⟩]; rfl
      · rw [if_yes (by omega)]
        exact ih (by omega)
    by_cases h9 : i = 9
    · rw [show ((i : Int) == 9) = true by simp; omega, cond_true]
      by_cases hb : byteAt s (i : Int) ≤ 1
      · rw [if_no (by rw [eu]; omega), get_or s i (by omega) (fun _ => hb)]
        exact rest (fun _ => hb)
      · rw [if_yes (by rw [eu]; omega)]
        by_cases hc : byteAt s (i : Int) < 128
        · rw [getB_is s i hi hm hc, if_neg (by rintro ⟨_, h1, _⟩; have := h1 h9; omega)]
        · rw [getB_far s (i + 1) (by omega) (fun j hj => by
            by_cases hij : j = i
            · rw [hij]; omega
            · exact hm j (by omega))]
    · rw [show ((i : Int) == 9) = false by simp; omega, cond_false, get_or s i (by omega) (fun h => absurd h h9)]
      exact rest (fun h => absurd h h9)
theorem Get_ok (s : ByteArray) (hs : s.size ≤ 140737488351232) : V.varint_Get s = some (getB s) := by
  refine V.varint_Get.of _ ?_
  unfold F.varint_Get.B
  have := Get_l s hs (min s.size 10) 0 (by omega) (fun j hj => by omega)
  simpa [bl, dg] using this
theorem refGet_end (s : ByteArray) (hs : s.size ≤ 140737488351232) (e : Nat) (he : e < s.size) (h9 : e ≤ 9) (hm : ∀ j, j < e → 128 ≤ byteAt s (j : Int)) (hc : byteAt s (e : Int) < 128) (N : Nat) (hlt : N < 18446744073709551616) (hN : N = mod64 (dg (bl s (e + 1) 0))) :
    (bif !strEq (numB N) (s.extract 0 (e + 1)) then some ((0 : Int), (0 : Int), false) else some ((N : Int), ((e + 1 : Nat) : Int), true)) = some (getB s) := by
  rw [getB_is s e he hm hc]
  have key := numB_is N (lim70 hlt) s e he h9 hm hc hN
  by_cases hq : (e = 9 → byteAt s (e : Int) ≤ 1) ∧ (e = 0 ∨ 0 < byteAt s (e : Int))
  · rw [strEq_iff.2 (bytes_ext (key.2 hq)), if_pos ⟨h9, hq.1, hq.2⟩]
    have h6 : dg (bl s (e + 1) 0) = N := by
      have h := key.2 hq
      have hx := bytesOf_bl s (e + 1) (by omega)
      have h1 := bytes_ext h
      unfold numB at h1
      rw [← hx] at h1
      have h2 := bytesOf_inj _ _ (vput_bytes 10 _) (bl_bytes s (e + 1) 0) h1
      have h3 := dg_vput 10 N (lim70 hlt)
      rw [h2] at h3
      exact h3
    rw [h6]
    rfl
  · rw [strEq_no (fun h => hq (key.1 (by rw [h]))), if_neg (fun h => hq ⟨h.2.1, h.2.2⟩)]
    rfl
theorem refGet_l1 (s : ByteArray) (hs : s.size ≤ 140737488351232) (e : Nat) (he : e < s.size) (h9 : e ≤ 9) (hm : ∀ j, j < e → 128 ≤ byteAt s (j : Int)) (hc : byteAt s (e : Int) < 128) : ∀ (i : Nat), i ≤ e + 1 →
    V.pleachref01_Get.l11111010 s (e : Int) ((mod64 (dg (bl s (e + 1 - i) i)) : Nat) : Int) ((i : Int) - 1) = some (getB s) := by
  intro i
  induction i with
  | zero =>
    intro hi
    refine V.pleachref01_Get.l11111010.of _ _ _ _ ?_
    unfold F.pleachref01_Get.l11111010.B
    rw [if_no (by omega), w64_up he hs, guard_of (by simp; omega), Nat.sub_zero, refPut_ok _ (mod64_lt _), Option.bind_some, nat_cast]
    exact refGet_end s hs e he h9 hm hc _ (mod64_lt _) rfl
  | succ i ih =>
    intro hi
    refine V.pleachref01_Get.l11111010.of _ _ _ _ ?_
    unfold F.pleachref01_Get.l11111010.B
    have e0 : (((i + 1 : Nat) : Int) - 1) = (i : Int) := by omega
    have e2 : bl s (e + 1 - i) i = byteAt s (i : Int) :: bl s (e + 1 - (i + 1)) (i + 1) := by
      rw [show e + 1 - i = (e + 1 - (i + 1)) + 1 by omega, bl]
    have ih2 := ih (by omega)
    rw [e2] at ih2
    rw [e0, if_yes (by omega), guard_in (by omega), ref_mod, w64_id (by omega) (by omega)]
    exact ih2
theorem refGet_j (s : ByteArray) (hs : s.size ≤ 140737488351232) (i : Nat) (hi : i ≤ s.size) (hm : ∀ j, j < i → 128 ≤ byteAt s (j : Int)) (hc : i < s.size → byteAt s (i : Int) < 128) : (bif (decide ((i : Int) ≥ (s.size : Int))) then (some (0, 0, false)) else (bif (decide ((i : Int) > 9)) then (some (0, 0, false)) else (V.pleachref01_Get.l11111010 s (i : Int) 0 (i : Int)))) = some (getB s) := by
  by_cases h1 : i < s.size
  · rw [if_no (by omega)]
    by_cases h9 : i ≤ 9
    · rw [if_no (by omega)]
      have := refGet_l1 s hs i h1 h9 hm (hc h1) (i + 1) (by omega)
      rw [show i + 1 - (i + 1) = 0 by omega, show ((i + 1 : Nat) : Int) - 1 = (i : Int) by omega] at this
      exact this
    · rw [if_yes (by omega), getB_far s i (by omega) hm]
  · rw [if_yes (by omega), getB_far s i (by omega) hm]
theorem refGet_l (s : ByteArray) (hs : s.size ≤ 140737488351232) : ∀ d i : Nat, i + d = s.size → (∀ j, j < i → 128 ≤ byteAt s (j : Int)) → V.pleachref01_Get.l1100 s (i : Int) = some (getB s)
  | 0, i, h, hm => by
    refine V.pleachref01_Get.l1100.of _ _ ?_
    unfold F.pleachref01_Get.l1100.B
    rw [if_out (by omega)]
    exact refGet_j s hs i (by omega) hm (fun h => by omega)
  | d + 1, i, h, hm => by
    refine V.pleachref01_Get.l1100.of _ _ ?_
    unfold F.pleachref01_Get.l1100.B
    rw [if_in (by omega), guard_in (by omega)]
    by_cases hc : byteAt s (i : Int) ≥ 128
    · rw [if_yes hc, w64_up (show i < s.size by omega) hs]
      exact refGet_l s hs d (i + 1) (by omega) (fun j hj => by
        by_cases hij : j = i
        · rw [hij]; omega
        · exact hm j (by omega))
    · rw [if_no hc]
      exact refGet_j s hs i (by omega) hm (fun h => by omega)
theorem refGet_ok (s : ByteArray) (hs : s.size ≤ 140737488351232) : V.pleachref01_Get s = some (getB s) := by
  refine V.pleachref01_Get.of _ ?_
  unfold F.pleachref01_Get.B
  exact refGet_l s hs s.size 0 (by omega) (fun j hj => by omega)

/-! ### What stands where -/

/-- These bytes stand in s at place a. -/
def AtB (s : ByteArray) (a : Nat) (B : ByteArray) : Prop := a + B.size ≤ s.size ∧ s.extract a (a + B.size) = B
theorem dlen (s : ByteArray) : s.data.toList.length = s.size := data_len s
theorem extract_toList (s : ByteArray) (a b : Nat) : (s.extract a b).data.toList = (s.data.toList.drop a).take (b - a) := by
  rw [ByteArray.data_extract, Array.toList_extract, List.extract_eq_take_drop]
theorem at_iff (s : ByteArray) (a : Nat) (B : ByteArray) (h : a ≤ s.size) : AtB s a B ↔ B.data.toList <+: s.data.toList.drop a := by
  have hl := dlen s
  have hb := dlen B
  constructor
  · rintro ⟨h1, h2⟩
    have h3 := extract_toList s a (a + B.size)
    rw [h2] at h3
    rw [h3]
    exact List.take_prefix _ _
  · intro hp
    have hle := hp.length_le
    rw [List.length_drop, hl, hb] at hle
    refine ⟨by omega, ?_⟩
    apply ByteArray.ext
    apply Array.ext'
    rw [extract_toList]
    have := List.prefix_iff_eq_take.1 hp
    rw [hb] at this
    rw [show a + B.size - a = B.size by omega]
    exact this.symm
theorem at_append (s : ByteArray) (a : Nat) (X Y : ByteArray) : AtB s a (X ++ Y) ↔ AtB s a X ∧ AtB s (a + X.size) Y := by
  have hs := ByteArray.size_append (a := X) (b := Y)
  have hx := dlen X
  constructor
  · rintro ⟨h1, h2⟩
    have ha : a ≤ s.size := by omega
    have hp := (at_iff s a (X ++ Y) ha).1 ⟨h1, h2⟩
    rw [ByteArray.data_append, Array.toList_append] at hp
    refine ⟨(at_iff s a X ha).2 (List.IsPrefix.trans (List.prefix_append _ _) hp), (at_iff s _ Y (by omega)).2 ?_⟩
    obtain ⟨t, ht⟩ := hp
    refine ⟨t, ?_⟩
    rw [← List.drop_drop, ← ht, List.append_assoc, ← hx, List.drop_left]
  · rintro ⟨h1, h2⟩
    have ha : a ≤ s.size := by have := h1.1; omega
    have hp := (at_iff s a X ha).1 h1
    have hq := (at_iff s (a + X.size) Y (by have := h2.1; omega)).1 h2
    refine (at_iff s a (X ++ Y) ha).2 ?_
    rw [ByteArray.data_append, Array.toList_append]
    obtain ⟨t, ht⟩ := hp
    obtain ⟨u, hu⟩ := hq
    refine ⟨u, ?_⟩
    rw [← List.drop_drop, ← ht, ← hx, List.drop_left] at hu
    rw [List.append_assoc, hu, ht]
theorem at_nil (s : ByteArray) (a : Nat) (h : a ≤ s.size) : AtB s a ⟨#[]⟩ := (at_iff s a _ h).2 (List.nil_prefix)
theorem at_whole (s : ByteArray) : AtB s 0 s := ⟨by omega, by simp⟩
theorem at_all {s B : ByteArray} (h : AtB s 0 B) (hs : B.size = s.size) : B = s := by
  have := h.2
  rw [Nat.zero_add, hs] at this
  rw [← this]
  simp
theorem tail_extract (s : ByteArray) (a m : Nat) (h : a + m ≤ s.size) : (s.extract a s.size).extract 0 m = s.extract a (a + m) := by
  apply ByteArray.ext
  apply Array.ext'
  rw [extract_toList, extract_toList, extract_toList, List.drop_zero, List.take_take]
  congr 1
  omega
theorem tail_size (s : ByteArray) (a : Nat) : (s.extract a s.size).size = s.size - a := by rw [ByteArray.size_extract]; omega

theorem contB_bl_conv (s : ByteArray) : ∀ d i, contB (bl s (d + 1) i) = true → (∀ j, i ≤ j → j < i + d → 128 ≤ byteAt s (j : Int)) ∧ byteAt s ((i + d : Nat) : Int) < 128
  | 0, i, h => by
    simp [bl, contB] at h
    exact ⟨fun j h1 h2 => by omega, by simpa using h⟩
  | d + 1, i, h => by
    have e1 : bl s (d + 1 + 1) i = byteAt s (i : Int) :: byteAt s ((i + 1 : Nat) : Int) :: bl s d (i + 1 + 1) := rfl
    have e2 : bl s (d + 1) (i + 1) = byteAt s ((i + 1 : Nat) : Int) :: bl s d (i + 1 + 1) := rfl
    rw [e1] at h
    simp only [contB, Bool.and_eq_true, decide_eq_true_eq] at h
    rw [← e2] at h
    obtain ⟨h1, h2⟩ := contB_bl_conv s d (i + 1) h.2
    refine ⟨fun j hj1 hj2 => ?_, by rw [show i + (d + 1) = i + 1 + d by omega]; exact h2⟩
    by_cases hij : j = i
    · rw [hij]; exact h.1
    · exact h1 j (by omega) (by omega)
theorem dg_lt (s : ByteArray) (e : Nat) (h9 : e ≤ 9) (hc : byteAt s (e : Int) < 128) (h1 : e = 9 → byteAt s (e : Int) ≤ 1) : dg (bl s (e + 1) 0) < 18446744073709551616 := by
  have hby := bl_bytes s (e + 1) 0
  have hlen := bl_len s (e + 1) 0
  have hsn : dg (bl s (e + 1) 0) = dg (bl s e 0) + 128 ^ e * (byteAt s (e : Int) % 128).toNat := by rw [bl_snoc, dg_snoc, bl_len, Nat.zero_add]
  have hd := dg_bound (bl s e 0) (bl_bytes s e 0)
  rw [bl_len] at hd
  have hr := bt_range s (e : Int)
  have hv : (byteAt s (e : Int) % 128).toNat = (byteAt s (e : Int)).toNat := by omega
  by_cases he9 : e = 9
  · subst he9
    have := h1 rfl
    have : (byteAt s ((9 : Nat) : Int)).toNat ≤ 1 := by omega
    have : 128 ^ 9 * (byteAt s ((9 : Nat) : Int)).toNat ≤ 128 ^ 9 * 1 := Nat.mul_le_mul_left _ this
    rw [hsn, hv]
    omega
  · have := dg_bound (bl s (e + 1) 0) hby
    rw [hlen] at this
    have h7 : 128 ^ (e + 1) ≤ 128 ^ 9 := Nat.pow_le_pow_right (by omega) (by omega)
    omega
/-- A number's own bytes, and only they, are read as it. -/
theorem getB_iff (x : ByteArray) (N m : Nat) (h64 : N < 18446744073709551616) : getB x = ((N : Int), (m : Int), true) ↔ (m = (numB N).size ∧ AtB x 0 (numB N)) := by
  constructor
  · intro h
    cases he : endAt x x.size 0 with
    | none => unfold getB at h; rw [he] at h; simp at h
    | some e =>
      obtain ⟨_, h2, h3, h4⟩ := endAt_some x x.size 0 e he
      rw [getB_is x e (by omega) (fun j hj => h4 j (by omega) hj) h3] at h
      by_cases hq : e ≤ 9 ∧ (e = 9 → byteAt x (e : Int) ≤ 1) ∧ (e = 0 ∨ 0 < byteAt x (e : Int))
      · rw [if_pos hq] at h
        simp only [Prod.mk.injEq] at h
        have hN : dg (bl x (e + 1) 0) = N := by omega
        have hm : m = e + 1 := by omega
        have key := (numB_is N (lim70 h64) x e (by omega) hq.1 (fun j hj => h4 j (by omega) hj) h3 (by rw [hN, mod64_small h64])).2 ⟨hq.2.1, hq.2.2⟩
        have hb := bytes_ext key
        have hz : (numB N).size = e + 1 := by rw [hb, ByteArray.size_extract]; omega
        exact ⟨by omega, by omega, by rw [hz, Nat.zero_add, ← hb]⟩
      · rw [if_neg hq] at h
        simp at h
  · rintro ⟨rfl, h1, h2⟩
    have hp : 0 < (vput 10 N).length := vput_pos 9 N
    have hz : (numB N).size = (vput 10 N).length := strOfNums_size _
    obtain ⟨e, he⟩ : ∃ e, (numB N).size = e + 1 := ⟨(numB N).size - 1, by omega⟩
    rw [Nat.zero_add] at h1 h2
    have hx := bytesOf_bl x (numB N).size h1
    rw [h2] at hx
    have hl := bytesOf_inj _ _ (bl_bytes x _ 0) (vput_bytes 10 N) hx
    have hc := contB_vput 9 N (lim70 h64)
    rw [← hl, he] at hc
    obtain ⟨g1, g2⟩ := contB_bl_conv x e 0 hc
    rw [Nat.zero_add] at g2
    have h10 := numB_size N
    have hdg : dg (bl x (e + 1) 0) = N := by rw [← he, hl]; exact dg_vput 10 N (lim70 h64)
    have key := (numB_is N (lim70 h64) x e (by omega) (by omega) (fun j hj => g1 j (by omega) (by omega)) g2 (by rw [hdg, mod64_small h64])).1 (by rw [← he, h2])
    rw [getB_is x e (by omega) (fun j hj => g1 j (by omega) (by omega)) g2, if_pos ⟨by omega, key.1, key.2⟩, hdg, he]
    rfl
theorem getB_form (x : ByteArray) : (∃ N m : Nat, N < 18446744073709551616 ∧ getB x = ((N : Int), (m : Int), true)) ∨ getB x = (0, 0, false) := by
  unfold getB
  cases he : endAt x x.size 0 with
  | none => exact .inr rfl
  | some e =>
    obtain ⟨_, h2, h3, h4⟩ := endAt_some x x.size 0 e he
    by_cases hq : e ≤ 9 ∧ (e = 9 → byteAt x (e : Int) ≤ 1) ∧ (e = 0 ∨ 0 < byteAt x (e : Int))
    · left
      exact ⟨dg (bl x (e + 1) 0), e + 1, dg_lt x e hq.1 h3 hq.2.1, by simp only [if_pos hq]; rfl⟩
    · right
      simp only [if_neg hq]
/-- The number, of at most 64 bits, whose bytes stand at a place, and the place behind it. -/
def uP (s : ByteArray) (a : Nat) : Option (Nat × Nat) := if (getB (s.extract a s.size)).2.2 = true then some ((getB (s.extract a s.size)).1.toNat, a + (getB (s.extract a s.size)).2.1.toNat) else none
theorem uP_iff (s : ByteArray) (a N b : Nat) (ha : a ≤ s.size) : uP s a = some (N, b) ↔ N < 18446744073709551616 ∧ b = a + (numB N).size ∧ AtB s a (numB N) := by
  have tr : ∀ B : ByteArray, AtB (s.extract a s.size) 0 B ↔ AtB s a B := by
    intro B
    unfold AtB
    rw [tail_size, Nat.zero_add]
    constructor
    · rintro ⟨h1, h2⟩; exact ⟨by omega, by rw [← tail_extract s a B.size (by omega)]; exact h2⟩
    · rintro ⟨h1, h2⟩; exact ⟨by omega, by rw [tail_extract s a B.size (by omega)]; exact h2⟩
  unfold uP
  rcases getB_form (s.extract a s.size) with ⟨M, m, hM, hg⟩ | hg
  · have := (getB_iff _ M m hM).1 hg
    rw [hg]
    simp only [if_true, Int.toNat_natCast, Option.some.injEq, Prod.mk.injEq]
    constructor
    · rintro ⟨rfl, rfl⟩
      exact ⟨hM, by rw [this.1], (tr _).1 this.2⟩
    · rintro ⟨h1, h2, h3⟩
      have g := (getB_iff (s.extract a s.size) N (numB N).size h1).2 ⟨rfl, (tr _).2 h3⟩
      rw [hg] at g
      simp only [Prod.mk.injEq] at g
      omega
  · rw [hg]
    simp only [Bool.false_eq_true, if_false]
    constructor
    · intro h; cases h
    · rintro ⟨h1, h2, h3⟩
      have g := (getB_iff (s.extract a s.size) N (numB N).size h1).2 ⟨rfl, (tr _).2 h3⟩
      rw [hg] at g
      simp at g
def numP (most : Nat) (s : ByteArray) (a : Nat) : Option (Nat × Nat) := (uP s a).bind fun x => if x.1 ≤ most then some x else none
theorem numP_iff (most : Nat) (hm : most < 18446744073709551616) (s : ByteArray) (a N b : Nat) (ha : a ≤ s.size) : numP most s a = some (N, b) ↔ N ≤ most ∧ b = a + (numB N).size ∧ AtB s a (numB N) := by
  unfold numP
  rw [Option.bind_eq_some_iff]
  constructor
  · rintro ⟨⟨M, c⟩, h1, h2⟩
    split at h2
    · rename_i h3
      simp only [Option.some.injEq, Prod.mk.injEq] at h2
      obtain ⟨rfl, rfl⟩ := h2
      exact ⟨h3, ((uP_iff s a M c ha).1 h1).2⟩
    · cases h2
  · rintro ⟨h1, h2, h3⟩
    exact ⟨(N, b), (uP_iff s a N b ha).2 ⟨by omega, h2, h3⟩, by rw [if_pos h1]⟩
def fixP (n : Nat) (s : ByteArray) (a : Nat) : Option (ByteArray × Nat) := if a + n ≤ s.size then some (s.extract a (a + n), a + n) else none
theorem fixP_iff (n : Nat) (s : ByteArray) (a : Nat) (t : ByteArray) (b : Nat) : fixP n s a = some (t, b) ↔ t.size = n ∧ b = a + n ∧ AtB s a t := by
  unfold fixP AtB
  constructor
  · intro h
    split at h
    · rename_i h1
      simp only [Option.some.injEq, Prod.mk.injEq] at h
      obtain ⟨rfl, rfl⟩ := h
      have : (s.extract a (a + n)).size = n := by rw [ByteArray.size_extract]; omega
      exact ⟨this, rfl, by omega, by rw [this]⟩
    · cases h
  · rintro ⟨rfl, rfl, h1, h2⟩
    rw [if_pos h1, h2]
def textP (most : Nat) (s : ByteArray) (a : Nat) : Option (ByteArray × Nat) := (numP most s a).bind fun x => fixP x.1 s x.2
theorem textP_iff (most : Nat) (hm : most < 18446744073709551616) (s : ByteArray) (a : Nat) (t : ByteArray) (b : Nat) (ha : a ≤ s.size) : textP most s a = some (t, b) ↔ t.size ≤ most ∧ b = a + (textB t).size ∧ AtB s a (textB t) := by
  unfold textP textB
  rw [Option.bind_eq_some_iff, at_append, ByteArray.size_append]
  constructor
  · rintro ⟨⟨N, c⟩, h1, h2⟩
    obtain ⟨g1, rfl, g3⟩ := (numP_iff most hm s a N c ha).1 h1
    obtain ⟨rfl, rfl, k3⟩ := (fixP_iff _ _ _ _ _).1 h2
    exact ⟨g1, by simp only; omega, g3, k3⟩
  · rintro ⟨h1, h2, h3, h4⟩
    exact ⟨(t.size, a + (numB t.size).size), (numP_iff most hm s a _ _ ha).2 ⟨h1, rfl, h3⟩, (fixP_iff _ _ _ _ _).2 ⟨rfl, by simp only; omega, h4⟩⟩
end Go.Proofs.Ytmnadajjgnniaaa.AE
end
section
set_option linter.unusedVariables false
set_option linter.unusedSimpArgs false
set_option maxRecDepth 4000
namespace Go.Proofs.Ytmnadajjgnniaaa.AE
open Go

theorem uP_get (s : ByteArray) (a : Nat) (hs : s.size ≤ 140737488351232) : (∃ N m : Nat, N < 18446744073709551616 ∧ getB (s.extract a s.size) = ((N : Int), (m : Int), true) ∧ uP s a = some (N, a + m)) ∨ (getB (s.extract a s.size) = (0, 0, false) ∧ uP s a = none) := by
  unfold uP
  rcases getB_form (s.extract a s.size) with ⟨N, m, hN, hg⟩ | hg
  · left; exact ⟨N, m, hN, hg, by rw [hg]; simp⟩
  · right; exact ⟨hg, by rw [hg]; simp⟩
theorem uP_le (s : ByteArray) (a N b : Nat) (ha : a ≤ s.size) (h : uP s a = some (N, b)) : N < 18446744073709551616 ∧ b ≤ s.size := by
  obtain ⟨h1, h2, h3⟩ := (uP_iff s a N b ha).1 h
  have := h3.1
  exact ⟨h1, by omega⟩
theorem Err_ok (s : ByteArray) (p e : Int) : V.scan_Scan_Err (s, p, e, true) = some (e, s, p, e, true) := by
  refine V.scan_Scan_Err.of _ ?_
  unfold F.scan_Scan_Err.B
  rfl
theorem fail_ok (s : ByteArray) (p e f : Int) : V.scan_Scan_fail (s, p, e, true) f = some (s, p, if e = 0 then f else e, true) := by
  refine V.scan_Scan_fail.of _ _ ?_
  unfold F.scan_Scan_fail.B
  dsimp only
  rw [Err_ok, Option.bind_some]
  by_cases h : e = 0 <;> simp [Bool.cond_eq_ite, h]
theorem Num_err (s : ByteArray) (p e : Int) (he : e ≠ 0) (most : Int) : V.scan_Scan_Num (s, p, e, true) most = some (0, s, p, e, true) := by
  refine V.scan_Scan_Num.of _ _ ?_
  unfold F.scan_Scan_Num.B
  dsimp only
  rw [Err_ok, Option.bind_some]
  simp [Bool.cond_eq_ite, he]
theorem Num_both (s : ByteArray) (hs : s.size ≤ 140737488351232) (a : Nat) (ha : a ≤ s.size) (most : Nat) (hm : most ≤ 100000) :
    (∃ n b, numP most s a = some (n, b) ∧ V.scan_Scan_Num (s, (a : Int), 0, true) (most : Int) = some ((n : Int), s, (b : Int), 0, true)) ∨
    (numP most s a = none ∧ ∃ e : Int, e ≠ 0 ∧ V.scan_Scan_Num (s, (a : Int), 0, true) (most : Int) = some (0, s, (a : Int), e, true)) := by
  have hx := extract_size s a s.size
  have B : ∀ {r}, F.scan_Scan_Num.B V.scan_Scan_Err V.varint_Get V.scan_Scan_fail (s, (a : Int), 0, true) (most : Int) = some r → V.scan_Scan_Num (s, (a : Int), 0, true) (most : Int) = some r := V.scan_Scan_Num.of _ _
  unfold F.scan_Scan_Num.B at B
  dsimp only at B
  rw [Err_ok, Option.bind_some] at B
  dsimp only at B
  rw [guard_of (by simp; omega), nat_cast, nat_cast, Get_ok _ (by omega), Option.bind_some] at B
  simp only [bne_self_eq_false, cond_false] at B
  unfold numP
  rcases uP_get s a hs with ⟨N, m, hN, hg, hu⟩ | ⟨hg, hu⟩
  · have hb := (uP_le s a N (a + m) ha hu).2
    rw [hg] at B
    rw [hu, Option.bind_some]
    dsimp only at B ⊢
    simp only [Bool.not_true, cond_false] at B
    rw [if_no (show ¬ (most : Int) < 0 by omega), u64_id (x := (most : Int)) (by omega) (by omega)] at B
    by_cases hle : N ≤ most
    · left
      refine ⟨N, a + m, by rw [if_pos hle], B ?_⟩
      rw [if_no (by omega), w64_id (by omega) (by omega), w64_id (by omega) (by omega)]
      rfl
    · right
      refine ⟨by rw [if_neg hle], 5, by omega, B ?_⟩
      rw [if_yes (by omega), fail_ok, Option.bind_some]
      rfl
  · right
    rw [hg] at B
    rw [hu]
    dsimp only at B ⊢
    refine ⟨rfl, 3, by omega, B ?_⟩
    rw [fail_ok, Option.bind_some]
    rfl
theorem take_err (s : ByteArray) (p e : Int) (he : e ≠ 0) (n : Int) : V.scan_Scan_take (s, p, e, true) n = some (⟨#[]⟩, s, p, e, true) := by
  refine V.scan_Scan_take.of _ _ ?_
  unfold F.scan_Scan_take.B
  dsimp only
  rw [Err_ok, Option.bind_some]
  simp [Bool.cond_eq_ite, he]
theorem take_both (s : ByteArray) (hs : s.size ≤ 140737488351232) (a : Nat) (ha : a ≤ s.size) (n : Nat) (hn : n ≤ 140737488351232) :
    (∃ t b, fixP n s a = some (t, b) ∧ V.scan_Scan_take (s, (a : Int), 0, true) (n : Int) = some (t, s, (b : Int), 0, true)) ∨
    (fixP n s a = none ∧ V.scan_Scan_take (s, (a : Int), 0, true) (n : Int) = some (⟨#[]⟩, s, (a : Int), 3, true)) := by
  have B : ∀ {r}, F.scan_Scan_take.B V.scan_Scan_Err (s, (a : Int), 0, true) (n : Int) = some r → V.scan_Scan_take (s, (a : Int), 0, true) (n : Int) = some r := V.scan_Scan_take.of _ _
  unfold F.scan_Scan_take.B at B
  dsimp only at B
  rw [Err_ok, Option.bind_some] at B
  dsimp only at B
  simp only [bne_self_eq_false, cond_false] at B
  rw [if_no (show ¬ (n : Int) < 0 by omega), w64_id (x := (s.size : Int) - (a : Int)) (by omega) (by omega), w64_id (x := (a : Int) + (n : Int)) (by omega) (by omega)] at B
  unfold fixP
  by_cases hle : a + n ≤ s.size
  · left
    refine ⟨s.extract a (a + n), a + n, by rw [if_pos hle], B ?_⟩
    rw [if_no (by omega), guard_of (by simp; omega)]
    rfl
  · right
    refine ⟨by rw [if_neg hle], B ?_⟩
    rw [if_yes (by omega)]
theorem Text_err (s : ByteArray) (p e : Int) (he : e ≠ 0) (most : Int) : V.scan_Scan_Text (s, p, e, true) most = some (⟨#[]⟩, s, p, e, true) := by
  refine V.scan_Scan_Text.of _ _ ?_
  unfold F.scan_Scan_Text.B
  dsimp only
  rw [Num_err s p e he, Option.bind_some]
  dsimp only
  rw [take_err s p e he, Option.bind_some]
theorem numP_le {most : Nat} {s : ByteArray} {a n b : Nat} (ha : a ≤ s.size) (h : numP most s a = some (n, b)) : n ≤ most ∧ b ≤ s.size := by
  unfold numP at h
  obtain ⟨⟨M, c⟩, h1, h2⟩ := Option.bind_eq_some_iff.1 h
  split at h2
  · rename_i h3
    simp only [Option.some.injEq, Prod.mk.injEq] at h2
    obtain ⟨rfl, rfl⟩ := h2
    exact ⟨h3, (uP_le s a _ _ ha h1).2⟩
  · cases h2
theorem fixP_le {n : Nat} {s : ByteArray} {a : Nat} {t : ByteArray} {b : Nat} (h : fixP n s a = some (t, b)) : b ≤ s.size ∧ t.size = n := by
  obtain ⟨h1, h2, h3⟩ := (fixP_iff n s a t b).1 h
  have := h3.1
  exact ⟨by omega, h1⟩
theorem Text_both (s : ByteArray) (hs : s.size ≤ 140737488351232) (a : Nat) (ha : a ≤ s.size) (most : Nat) (hm : most ≤ 100000) :
    (∃ t b, textP most s a = some (t, b) ∧ b ≤ s.size ∧ t.size ≤ most ∧ V.scan_Scan_Text (s, (a : Int), 0, true) (most : Int) = some (t, s, (b : Int), 0, true)) ∨
    (textP most s a = none ∧ ∃ p e : Int, e ≠ 0 ∧ V.scan_Scan_Text (s, (a : Int), 0, true) (most : Int) = some (⟨#[]⟩, s, p, e, true)) := by
  have B : ∀ {r}, F.scan_Scan_Text.B V.scan_Scan_Num V.scan_Scan_take (s, (a : Int), 0, true) (most : Int) = some r → V.scan_Scan_Text (s, (a : Int), 0, true) (most : Int) = some r := V.scan_Scan_Text.of _ _
  unfold F.scan_Scan_Text.B at B
  dsimp only at B
  unfold textP
  rcases Num_both s hs a ha most hm with ⟨n, b, h1, h2⟩ | ⟨h1, e, he, h2⟩
  · obtain ⟨h3, h4⟩ := numP_le ha h1
    rw [h2, Option.bind_some] at B
    rw [h1, Option.bind_some]
    dsimp only at B ⊢
    rcases take_both s hs b h4 n (by omega) with ⟨t, c, g1, g2⟩ | ⟨g1, g2⟩
    · left
      have := fixP_le g1
      exact ⟨t, c, g1, this.1, by omega, B (by rw [g2, Option.bind_some])⟩
    · right
      exact ⟨g1, (b : Int), 3, by omega, B (by rw [g2, Option.bind_some])⟩
  · right
    rw [h2, Option.bind_some] at B
    rw [h1]
    refine ⟨rfl, (a : Int), e, he, B ?_⟩
    dsimp only
    rw [take_err s _ e he, Option.bind_some]
theorem Byte_err (s : ByteArray) (p e : Int) (he : e ≠ 0) : V.scan_Scan_Byte (s, p, e, true) = some (0, s, p, e, true) := by
  refine V.scan_Scan_Byte.of _ ?_
  unfold F.scan_Scan_Byte.B
  dsimp only
  rw [take_err s p e he, Option.bind_some]
  dsimp only
  rw [strEq_self]
  rfl
theorem bt_extract (s : ByteArray) (a : Nat) (h : a < s.size) : byteAt (s.extract a (a + 1)) 0 = byteAt s (a : Int) := by
  have hz : (s.extract a (a + 1)).size = 1 := by rw [ByteArray.size_extract]; omega
  have h1 := bt_data (s.extract a (a + 1)) 0 (by omega)
  rw [bt_data s a h]
  rw [show ((0 : Nat) : Int) = 0 from rfl] at h1
  rw [h1]
  simp only [extract_toList]
  rw [List.getElem_take, List.getElem_drop]
  simp
theorem Byte_both (s : ByteArray) (hs : s.size ≤ 140737488351232) (a : Nat) (ha : a ≤ s.size) :
    (a < s.size ∧ V.scan_Scan_Byte (s, (a : Int), 0, true) = some (byteAt s (a : Int), s, ((a + 1 : Nat) : Int), 0, true)) ∨
    (¬ a < s.size ∧ V.scan_Scan_Byte (s, (a : Int), 0, true) = some (0, s, (a : Int), 3, true)) := by
  have B : ∀ {r}, F.scan_Scan_Byte.B V.scan_Scan_take (s, (a : Int), 0, true) = some r → V.scan_Scan_Byte (s, (a : Int), 0, true) = some r := V.scan_Scan_Byte.of _
  unfold F.scan_Scan_Byte.B at B
  dsimp only at B
  rcases take_both s hs a ha 1 (by omega) with ⟨t, b, h1, h2⟩ | ⟨h1, h2⟩
  · left
    obtain ⟨g1, g2, g3⟩ := (fixP_iff 1 s a t b).1 h1
    have h3 := g3.1
    have h4 := g3.2
    rw [g1] at h3 h4
    have hr := bt_range s (a : Int)
    rw [show (1 : Int) = ((1 : Nat) : Int) from rfl, h2, Option.bind_some] at B
    refine ⟨by omega, B ?_⟩
    dsimp only
    have e0 : byteAt t 0 = byteAt s (a : Int) := by rw [← h4]; exact bt_extract s a (by omega)
    rw [strEq_nil, show (t.size == 0) = false by simp [g1], cond_false, guard_dec (by omega), e0, w64_id (by omega) (by omega), g2]
  · right
    have : ¬ a + 1 ≤ s.size := by
      intro hle
      unfold fixP at h1
      rw [if_pos hle] at h1
      cases h1
    rw [show (1 : Int) = ((1 : Nat) : Int) from rfl, h2, Option.bind_some] at B
    refine ⟨by omega, B ?_⟩
    dsimp only
    rw [strEq_self]
    rfl
/-- It leads back from a number's place among 0, -1, 1, -2, 2. -/
def zag (n : Nat) : Int := if n % 2 = 0 then ((n / 2 : Nat) : Int) else -((n / 2 : Nat) : Int) - 1
theorem zag_range (n : Nat) (h : n < 18446744073709551616) : -9223372036854775808 ≤ zag n ∧ zag n ≤ 9223372036854775807 := by unfold zag; split <;> omega
theorem zig_zag (n : Nat) : zig (zag n) = n := by unfold zig zag; split <;> split <;> omega
theorem zag_zig (a : Int) : zag (zig a).toNat = a := by unfold zig zag; split <;> split <;> omega
theorem xor_i0 (n : Nat) (h : n < 9223372036854775808) : w64 ((BitVec.ofInt 64 (n : Int) ^^^ BitVec.ofInt 64 0).toNat : Int) = (n : Int) := by
  have e2 : (BitVec.ofInt 64 (n : Int) ^^^ BitVec.ofInt 64 0).toNat = n := by
    have : BitVec.ofInt 64 0 = 0#64 := rfl
    rw [this, BitVec.xor_zero, BitVec.toNat_ofInt]
    omega
  rw [e2, w64_id (by omega) (by omega)]
theorem w64_mod (x : Int) : w64 x = (x + 9223372036854775808) % 18446744073709551616 - 9223372036854775808 := by
  show IntKind.i64.wrap x = _
  rw [Go.IntKind.wrap_i64]
theorem xor_i1 (n : Nat) (h : n < 9223372036854775808) : w64 ((BitVec.ofInt 64 (n : Int) ^^^ BitVec.ofInt 64 (-1)).toNat : Int) = -(n : Int) - 1 := by
  have : BitVec.ofInt 64 (-1) = BitVec.allOnes 64 := by decide
  rw [this, BitVec.xor_allOnes, BitVec.toNat_not, BitVec.toNat_ofInt, w64_mod]
  omega
theorem Zag_ok (n : Nat) (h : n < 18446744073709551616) : V.varint_Zag (n : Int) = some (zag n) := by
  have e1 : IntKind.wrap .u64 ((BitVec.ofInt 64 (n : Int) &&& BitVec.ofInt 64 1).toNat : Int) = ((n % 2 : Nat) : Int) := by
    have := Go.bits_mask .u64 64 (by decide) wraps_u64 1 (by omega) (n : Int) (by omega) (by omega)
    rw [show ((2 : Int) ^ 1 - 1) = 1 from rfl] at this
    refine this.trans ?_
    omega
  refine V.varint_Zag.of _ ?_
  unfold F.varint_Zag.B zag
  have e2 : Int.fdiv (n : Int) (2 ^ 1) = ((n / 2 : Nat) : Int) := by rw [Int.fdiv_eq_ediv_of_nonneg _ (by decide)]; rfl
  rw [e1, e2, w64_id (x := ((n / 2 : Nat) : Int)) (by omega) (by omega), w64_id (x := ((n % 2 : Nat) : Int)) (by omega) (by omega), w64_id (x := 0 - ((n % 2 : Nat) : Int)) (by omega) (by omega)]
  split
  · rename_i h0
    rw [h0, show (0 - ((0 : Nat) : Int)) = 0 from rfl, xor_i0 _ (by omega)]
  · rename_i h0
    rw [show n % 2 = 1 by omega, show (0 - ((1 : Nat) : Int)) = -1 from rfl, xor_i1 _ (by omega)]
theorem refZag_ok (n : Nat) (h : n < 18446744073709551616) : V.pleachref01_Zag (n : Int) = some (zag n) := by
  refine V.pleachref01_Zag.of _ ?_
  unfold F.pleachref01_Zag.B zag
  rw [Int.tmod_eq_emod_of_nonneg (by omega), Int.tdiv_eq_ediv_of_nonneg (by omega), show (n : Int) / 2 = ((n / 2 : Nat) : Int) by omega, u64_id (by omega) (by omega), w64_id (x := ((n / 2 : Nat) : Int)) (by omega) (by omega)]
  by_cases h0 : n % 2 = 0
  · rw [show ((n : Int) % 2 == 0) = true by simp; omega, cond_true, if_pos h0]
  · rw [show ((n : Int) % 2 == 0) = false by simp; omega, cond_false, if_neg h0, w64_id (by omega) (by omega)]
    congr 1
    omega
def intP (s : ByteArray) (a : Nat) : Option (Int × Nat) := (uP s a).bind fun x => some (zag x.1, x.2)
theorem intP_iff (s : ByteArray) (a : Nat) (y : Int) (b : Nat) (ha : a ≤ s.size) : intP s a = some (y, b) ↔ (-9223372036854775808 ≤ y ∧ y ≤ 9223372036854775807) ∧ b = a + (numB (zig y).toNat).size ∧ AtB s a (numB (zig y).toNat) := by
  unfold intP
  rw [Option.bind_eq_some_iff]
  constructor
  · rintro ⟨⟨N, c⟩, h1, h2⟩
    obtain ⟨g1, g2, g3⟩ := (uP_iff s a N c ha).1 h1
    simp only [Option.some.injEq, Prod.mk.injEq] at h2
    obtain ⟨rfl, rfl⟩ := h2
    rw [zig_zag, Int.toNat_natCast]
    exact ⟨zag_range N g1, g2, g3⟩
  · rintro ⟨h1, h2, h3⟩
    have hz := zig_bound h1.1 h1.2
    exact ⟨((zig y).toNat, b), (uP_iff s a _ b ha).2 ⟨by omega, h2, h3⟩, by simp [zag_zig]⟩
theorem Int_both (s : ByteArray) (hs : s.size ≤ 140737488351232) (a : Nat) (ha : a ≤ s.size) :
    (∃ y b, intP s a = some (y, b) ∧ b ≤ s.size ∧ V.scan_Scan_Int (s, (a : Int), 0, true) = some (y, s, (b : Int), 0, true)) ∨
    (intP s a = none ∧ ∃ e : Int, e ≠ 0 ∧ V.scan_Scan_Int (s, (a : Int), 0, true) = some (0, s, (a : Int), e, true)) := by
  have hx := extract_size s a s.size
  have G : ∀ {r}, F.varint_GetInt.B V.varint_Get V.varint_Zag (s.extract a s.size) = some r → V.varint_GetInt (s.extract a s.size) = some r := V.varint_GetInt.of _
  unfold F.varint_GetInt.B at G
  rw [Get_ok _ (by omega), Option.bind_some] at G
  have B : ∀ {r}, F.scan_Scan_Int.B V.scan_Scan_Err V.varint_GetInt V.scan_Scan_fail (s, (a : Int), 0, true) = some r → V.scan_Scan_Int (s, (a : Int), 0, true) = some r := V.scan_Scan_Int.of _
  unfold F.scan_Scan_Int.B at B
  dsimp only at B
  rw [Err_ok, Option.bind_some] at B
  dsimp only at B
  rw [guard_of (by simp; omega), nat_cast, nat_cast] at B
  simp only [bne_self_eq_false, cond_false] at B
  unfold intP
  rcases uP_get s a hs with ⟨N, m, hN, hg, hu⟩ | ⟨hg, hu⟩
  · have hb := (uP_le s a N (a + m) ha hu).2
    left
    rw [hg] at G
    refine ⟨zag N, a + m, by rw [hu]; rfl, hb, B ?_⟩
    rw [G (r := (zag N, (m : Int), true)) (by dsimp only; rw [Zag_ok N hN, Option.bind_some]), Option.bind_some]
    dsimp only
    rw [w64_id (by omega) (by omega)]
    rfl
  · right
    rw [hg] at G
    refine ⟨by rw [hu]; rfl, 3, by omega, B ?_⟩
    have hz : V.varint_Zag 0 = some (zag 0) := Zag_ok 0 (by omega)
    rw [G (r := (zag 0, 0, false)) (by dsimp only; rw [hz, Option.bind_some]), Option.bind_some]
    dsimp only
    rw [fail_ok, Option.bind_some]
    rfl
/-- The value whose bytes stand at a place, and the place behind it. -/
def valueP (s : ByteArray) (a : Nat) : Option (TValue × Nat) :=
  if a < s.size then
    if byteAt s (a : Int) = 1 then
      if a + 1 < s.size then (if valueB (1, byteAt s ((a + 1 : Nat) : Int), ⟨#[]⟩) = true then some ((1, byteAt s ((a + 1 : Nat) : Int), ⟨#[]⟩), a + 2) else none) else none
    else if byteAt s (a : Int) = 2 then (intP s (a + 1)).bind fun x => some ((2, x.1, ⟨#[]⟩), x.2)
    else if byteAt s (a : Int) = 3 then (textP 64 s (a + 1)).bind fun x => some ((3, 0, x.1), x.2)
    else none
  else none
theorem Fail_ok (s : ByteArray) (p : Int) : V.scan_Scan_Fail (s, p, 0, true) 3 = some (s, p, 3, true) := by
  refine V.scan_Scan_Fail.of _ _ ?_
  unfold F.scan_Scan_Fail.B
  dsimp only
  rw [fail_ok, Option.bind_some]
  rfl
/-- What value.Read does with what it has read. -/
theorem Read_end (s : ByteArray) (p e : Int) (v : TValue) : ((V.scan_Scan_Err (s, p, e, true)).bind fun t => (bif (t.1 != 0) then (some (((0, 0, (⟨#[]⟩ : ByteArray)) : TValue), t.2.1, t.2.2.1, t.2.2.2.1, t.2.2.2.2)) else ((V.value_Check v).bind fun u => (bif (u != 0) then ((V.scan_Scan_Fail (t.2.1, t.2.2.1, t.2.2.2.1, t.2.2.2.2) 3).bind fun z => (some ((0, 0, (⟨#[]⟩ : ByteArray)), z.1, z.2.1, z.2.2.1, z.2.2.2))) else (some (v, t.2.1, t.2.2.1, t.2.2.2.1, t.2.2.2.2)))))) =
    if e = 0 then (if valueB v = true then some (v, s, p, 0, true) else some ((0, 0, ⟨#[]⟩), s, p, 3, true)) else some ((0, 0, ⟨#[]⟩), s, p, e, true) := by
  rw [Err_ok, Option.bind_some]
  dsimp only
  by_cases h : e = 0
  · subst h
    rw [value_Check_ok, Option.bind_some, Fail_ok]
    cases valueB v <;> simp
  · simp [Bool.cond_eq_ite, h]
theorem Read_err (s : ByteArray) (p e : Int) (he : e ≠ 0) : V.value_Read (s, p, e, true) = some ((0, 0, ⟨#[]⟩), s, p, e, true) := by
  refine V.value_Read.of _ ?_
  unfold F.value_Read.B
  dsimp only
  rw [Byte_err s p e he, Option.bind_some]
  dsimp only
  simp only [Int.reduceBEq, cond_false]
  exact (Read_end s p e _).trans (by rw [if_neg he])
theorem Read_both (s : ByteArray) (hs : s.size ≤ 140737488351232) (a : Nat) (ha : a ≤ s.size) :
    (∃ v b, valueP s a = some (v, b) ∧ b ≤ s.size ∧ V.value_Read (s, (a : Int), 0, true) = some (v, s, (b : Int), 0, true)) ∨
    (valueP s a = none ∧ ∃ p e : Int, e ≠ 0 ∧ V.value_Read (s, (a : Int), 0, true) = some ((0, 0, ⟨#[]⟩), s, p, e, true)) := by
  have B : ∀ {r}, F.value_Read.B V.scan_Scan_Byte V.scan_Scan_Err V.value_Check V.scan_Scan_Fail V.scan_Scan_Int V.scan_Scan_Text (s, (a : Int), 0, true) = some r → V.value_Read (s, (a : Int), 0, true) = some r := V.value_Read.of _
  unfold F.value_Read.B at B
  dsimp only at B
  unfold valueP
  rcases Byte_both s hs a ha with ⟨h1, h2⟩ | ⟨h1, h2⟩
  · rw [if_pos h1]
    rw [h2, Option.bind_some] at B
    dsimp only at B
    by_cases c1 : byteAt s (a : Int) = 1
    · rw [if_pos c1]
      rw [c1] at B
      simp only [Int.reduceBEq, cond_true] at B
      rcases Byte_both s hs (a + 1) (by omega) with ⟨g1, g2⟩ | ⟨g1, g2⟩
      · rw [if_pos g1]
        rw [g2, Option.bind_some] at B
        dsimp only at B
        have E := Read_end s ((a + 1 + 1 : Nat) : Int) 0 (1, byteAt s ((a + 1 : Nat) : Int), ⟨#[]⟩)
        rw [if_pos rfl] at E
        by_cases hv : valueB (1, byteAt s ((a + 1 : Nat) : Int), ⟨#[]⟩) = true
        · left; exact ⟨_, a + 2, by rw [if_pos hv], by omega, B (E.trans (by rw [if_pos hv]))⟩
        · right; exact ⟨by rw [if_neg hv], _, 3, by omega, B (E.trans (by rw [if_neg hv]))⟩
      · right
        rw [if_neg g1]
        rw [g2, Option.bind_some] at B
        dsimp only at B
        exact ⟨by first | rfl | trivial, _, 3, by omega, B ((Read_end s _ 3 _).trans (by rw [if_neg (by omega)]))⟩
    · rw [if_neg c1]
      rw [show (byteAt s (a : Int) == 1) = false by simp [c1], cond_false] at B
      by_cases c2 : byteAt s (a : Int) = 2
      · rw [if_pos c2]
        rw [c2] at B
        simp only [Int.reduceBEq, cond_true] at B
        rcases Int_both s hs (a + 1) (by omega) with ⟨y, b, g1, g2, g3⟩ | ⟨g1, e, he, g3⟩
        · left
          rw [g3, Option.bind_some] at B
          dsimp only at B
          rw [g1, Option.bind_some]
          exact ⟨(2, y, ⟨#[]⟩), b, rfl, g2, B ((Read_end s _ 0 _).trans (by rw [if_pos rfl, if_pos (by simp [valueB, ByteArray.size])]))⟩
        · right
          rw [g3, Option.bind_some] at B
          dsimp only at B
          rw [g1]
          exact ⟨by first | rfl | trivial, _, e, he, B ((Read_end s _ e _).trans (by rw [if_neg he]))⟩
      · rw [if_neg c2]
        rw [show (byteAt s (a : Int) == 2) = false by simp [c2], cond_false] at B
        by_cases c3 : byteAt s (a : Int) = 3
        · rw [if_pos c3]
          rw [c3] at B
          simp only [Int.reduceBEq, cond_true] at B
          rcases Text_both s hs (a + 1) (by omega) 64 (by omega) with ⟨t, b, g1, g2, g3, g4⟩ | ⟨g1, p, e, he, g3⟩
          · left
            rw [show (64 : Int) = ((64 : Nat) : Int) from rfl, g4, Option.bind_some] at B
            dsimp only at B
            rw [g1, Option.bind_some]
            exact ⟨(3, 0, t), b, rfl, g2, B ((Read_end s _ 0 _).trans (by rw [if_pos rfl, if_pos (by simp [valueB, g3])]))⟩
          · right
            rw [show (64 : Int) = ((64 : Nat) : Int) from rfl, g3, Option.bind_some] at B
            dsimp only at B
            rw [g1]
            exact ⟨by first | rfl | trivial, _, e, he, B ((Read_end s _ e _).trans (by rw [if_neg he]))⟩
        · rw [if_neg c3]
          rw [show (byteAt s (a : Int) == 3) = false by simp [c3], cond_false] at B
          right
          refine ⟨by first | rfl | trivial, ((a + 1 : Nat) : Int), 3, by omega, B ((Read_end s _ 0 _).trans ?_)⟩
          rw [if_pos rfl, if_neg (by simp [valueB, c1, c2, c3])]
  · right
    rw [if_neg h1]
    rw [h2, Option.bind_some] at B
    dsimp only at B
    simp only [Int.reduceBEq, cond_false] at B
    exact ⟨by first | rfl | trivial, _, 3, by omega, B ((Read_end s _ 3 _).trans (by rw [if_neg (by omega)]))⟩
end Go.Proofs.Ytmnadajjgnniaaa.AE
end
section
set_option linter.unusedVariables false
set_option linter.unusedSimpArgs false
set_option maxRecDepth 4000
namespace Go.Proofs.Ytmnadajjgnniaaa.AE
open Go

theorem bne_ne {e : Int} (he : e ≠ 0) : (e != 0) = true := by simp [he]
theorem rNum_err (s : ByteArray) (p e : Int) (he : e ≠ 0) (most : Int) : V.pleachref04_Num (s, p, e) most = some ((s, p, e), 0) := by
  refine V.pleachref04_Num.of _ _ ?_
  unfold F.pleachref04_Num.B
  dsimp only
  rw [bne_ne he, cond_true]
theorem rNum_both (s : ByteArray) (hs : s.size ≤ 140737488351232) (a : Nat) (ha : a ≤ s.size) (most : Nat) (hm : most ≤ 100000) :
    (∃ n b, numP most s a = some (n, b) ∧ V.pleachref04_Num (s, (a : Int), 0) (most : Int) = some ((s, (b : Int), 0), (n : Int))) ∨
    (numP most s a = none ∧ ∃ e : Int, e ≠ 0 ∧ V.pleachref04_Num (s, (a : Int), 0) (most : Int) = some ((s, (a : Int), e), 0)) := by
  have hx := extract_size s a s.size
  have B : ∀ {r}, F.pleachref04_Num.B V.pleachref01_Get (s, (a : Int), 0) (most : Int) = some r → V.pleachref04_Num (s, (a : Int), 0) (most : Int) = some r := V.pleachref04_Num.of _ _
  unfold F.pleachref04_Num.B at B
  dsimp only at B
  rw [guard_of (by simp; omega), nat_cast, nat_cast, refGet_ok _ (by omega), Option.bind_some] at B
  simp only [bne_self_eq_false, cond_false] at B
  unfold numP
  rcases uP_get s a hs with ⟨N, m, hN, hg, hu⟩ | ⟨hg, hu⟩
  · have hb := (uP_le s a N (a + m) ha hu).2
    rw [hg] at B
    rw [hu, Option.bind_some]
    dsimp only at B ⊢
    simp only [Bool.not_true, cond_false] at B
    rw [if_no (show ¬ (most : Int) < 0 by omega), u64_id (x := (most : Int)) (by omega) (by omega)] at B
    by_cases hle : N ≤ most
    · left
      refine ⟨N, a + m, by rw [if_pos hle], B ?_⟩
      rw [if_no (by omega), w64_id (by omega) (by omega), w64_id (by omega) (by omega)]
      rfl
    · right
      refine ⟨by rw [if_neg hle], 5, by omega, B ?_⟩
      rw [if_yes (by omega)]
  · right
    rw [hg] at B
    rw [hu]
    dsimp only at B ⊢
    exact ⟨rfl, 3, by omega, B rfl⟩
theorem rfix_err (s : ByteArray) (p e : Int) (he : e ≠ 0) (n : Int) : V.pleachref04_fix (s, p, e) n = some ((s, p, e), ⟨#[]⟩) := by
  refine V.pleachref04_fix.of _ _ ?_
  unfold F.pleachref04_fix.B
  dsimp only
  rw [bne_ne he, cond_true]
theorem rfix_both (s : ByteArray) (hs : s.size ≤ 140737488351232) (a : Nat) (ha : a ≤ s.size) (n : Nat) (hn : n ≤ 140737488351232) :
    (∃ t b, fixP n s a = some (t, b) ∧ V.pleachref04_fix (s, (a : Int), 0) (n : Int) = some ((s, (b : Int), 0), t)) ∨
    (fixP n s a = none ∧ V.pleachref04_fix (s, (a : Int), 0) (n : Int) = some ((s, (a : Int), 3), ⟨#[]⟩)) := by
  have B : ∀ {r}, F.pleachref04_fix.B (s, (a : Int), 0) (n : Int) = some r → V.pleachref04_fix (s, (a : Int), 0) (n : Int) = some r := V.pleachref04_fix.of _ _
  unfold F.pleachref04_fix.B at B
  dsimp only at B
  simp only [bne_self_eq_false, cond_false] at B
  rw [if_no (show ¬ (n : Int) < 0 by omega), w64_id (x := (s.size : Int) - (a : Int)) (by omega) (by omega), w64_id (x := (a : Int) + (n : Int)) (by omega) (by omega)] at B
  unfold fixP
  by_cases hle : a + n ≤ s.size
  · left
    refine ⟨s.extract a (a + n), a + n, by rw [if_pos hle], B ?_⟩
    rw [if_no (by omega), guard_of (by simp; omega)]
    rfl
  · right
    refine ⟨by rw [if_neg hle], B ?_⟩
    rw [if_yes (by omega)]
theorem rText_err (s : ByteArray) (p e : Int) (he : e ≠ 0) (most : Int) : V.pleachref04_Text (s, p, e) most = some ((s, p, e), ⟨#[]⟩) := by
  refine V.pleachref04_Text.of _ _ ?_
  unfold F.pleachref04_Text.B
  dsimp only
  rw [rNum_err s p e he, Option.bind_some]
  dsimp only
  rw [bne_ne he, cond_true]
theorem rText_both (s : ByteArray) (hs : s.size ≤ 140737488351232) (a : Nat) (ha : a ≤ s.size) (most : Nat) (hm : most ≤ 100000) :
    (∃ t b, textP most s a = some (t, b) ∧ b ≤ s.size ∧ t.size ≤ most ∧ V.pleachref04_Text (s, (a : Int), 0) (most : Int) = some ((s, (b : Int), 0), t)) ∨
    (textP most s a = none ∧ ∃ p e : Int, e ≠ 0 ∧ V.pleachref04_Text (s, (a : Int), 0) (most : Int) = some ((s, p, e), ⟨#[]⟩)) := by
  have B : ∀ {r}, F.pleachref04_Text.B V.pleachref04_Num V.pleachref04_fix (s, (a : Int), 0) (most : Int) = some r → V.pleachref04_Text (s, (a : Int), 0) (most : Int) = some r := V.pleachref04_Text.of _ _
  unfold F.pleachref04_Text.B at B
  dsimp only at B
  unfold textP
  rcases rNum_both s hs a ha most hm with ⟨n, b, h1, h2⟩ | ⟨h1, e, he, h2⟩
  · obtain ⟨h3, h4⟩ := numP_le ha h1
    rw [h2, Option.bind_some] at B
    rw [h1, Option.bind_some]
    dsimp only at B ⊢
    simp only [bne_self_eq_false, cond_false] at B
    rcases rfix_both s hs b h4 n (by omega) with ⟨t, c, g1, g2⟩ | ⟨g1, g2⟩
    · left
      have := fixP_le g1
      exact ⟨t, c, g1, this.1, by omega, B (by rw [g2, Option.bind_some])⟩
    · right
      exact ⟨g1, (b : Int), 3, by omega, B (by rw [g2, Option.bind_some])⟩
  · right
    rw [h2, Option.bind_some] at B
    rw [h1]
    refine ⟨rfl, (a : Int), e, he, B ?_⟩
    dsimp only
    rw [bne_ne he, cond_true]
theorem rByte_err (s : ByteArray) (p e : Int) (he : e ≠ 0) : V.pleachref04_Byte (s, p, e) = some ((s, p, e), 0) := by
  refine V.pleachref04_Byte.of _ ?_
  unfold F.pleachref04_Byte.B
  dsimp only
  rw [rfix_err s p e he, Option.bind_some]
  dsimp only
  rw [bne_ne he, cond_true]
theorem rByte_both (s : ByteArray) (hs : s.size ≤ 140737488351232) (a : Nat) (ha : a ≤ s.size) :
    (a < s.size ∧ V.pleachref04_Byte (s, (a : Int), 0) = some ((s, ((a + 1 : Nat) : Int), 0), byteAt s (a : Int))) ∨
    (¬ a < s.size ∧ V.pleachref04_Byte (s, (a : Int), 0) = some ((s, (a : Int), 3), 0)) := by
  have B : ∀ {r}, F.pleachref04_Byte.B V.pleachref04_fix (s, (a : Int), 0) = some r → V.pleachref04_Byte (s, (a : Int), 0) = some r := V.pleachref04_Byte.of _
  unfold F.pleachref04_Byte.B at B
  dsimp only at B
  rcases rfix_both s hs a ha 1 (by omega) with ⟨t, b, h1, h2⟩ | ⟨h1, h2⟩
  · left
    obtain ⟨g1, g2, g3⟩ := (fixP_iff 1 s a t b).1 h1
    have h3 := g3.1
    have h4 := g3.2
    rw [g1] at h3 h4
    have hr := bt_range s (a : Int)
    rw [show (1 : Int) = ((1 : Nat) : Int) from rfl, h2, Option.bind_some] at B
    refine ⟨by omega, B ?_⟩
    have e0 : byteAt t 0 = byteAt s (a : Int) := by rw [← h4]; exact bt_extract s a (by omega)
    simp only [bne_self_eq_false, cond_false]
    rw [guard_dec (by omega), e0, w64_id (by omega) (by omega), g2]
  · right
    have : ¬ a + 1 ≤ s.size := by
      intro hle
      unfold fixP at h1
      rw [if_pos hle] at h1
      cases h1
    rw [show (1 : Int) = ((1 : Nat) : Int) from rfl, h2, Option.bind_some] at B
    exact ⟨by omega, B rfl⟩
theorem rInt_both (s : ByteArray) (hs : s.size ≤ 140737488351232) (a : Nat) (ha : a ≤ s.size) :
    (∃ y b, intP s a = some (y, b) ∧ b ≤ s.size ∧ V.pleachref04_Int (s, (a : Int), 0) = some ((s, (b : Int), 0), y)) ∨
    (intP s a = none ∧ ∃ e : Int, e ≠ 0 ∧ V.pleachref04_Int (s, (a : Int), 0) = some ((s, (a : Int), e), 0)) := by
  have hx := extract_size s a s.size
  have B : ∀ {r}, F.pleachref04_Int.B V.pleachref01_Get V.pleachref01_Zag (s, (a : Int), 0) = some r → V.pleachref04_Int (s, (a : Int), 0) = some r := V.pleachref04_Int.of _
  unfold F.pleachref04_Int.B at B
  dsimp only at B
  rw [guard_of (by simp; omega), nat_cast, nat_cast, refGet_ok _ (by omega), Option.bind_some] at B
  simp only [bne_self_eq_false, cond_false] at B
  unfold intP
  rcases uP_get s a hs with ⟨N, m, hN, hg, hu⟩ | ⟨hg, hu⟩
  · have hb := (uP_le s a N (a + m) ha hu).2
    left
    rw [hg] at B
    refine ⟨zag N, a + m, by rw [hu]; rfl, hb, B ?_⟩
    dsimp only
    simp only [Bool.not_true, cond_false]
    rw [refZag_ok N hN, Option.bind_some, w64_id (by omega) (by omega)]
    rfl
  · right
    rw [hg] at B
    exact ⟨by rw [hu]; rfl, 3, by omega, B rfl⟩
theorem rRead_end (s : ByteArray) (p e : Int) (k y : Int) (t : ByteArray) : (bif (e == 0) then ((V.pleachref06_Is (k, y, t)).bind fun u => (bif (!u) then (some (((s, p, 3), 0, 0, (⟨#[]⟩ : ByteArray)) : TScan × TValue)) else (bif (e != 0) then (some ((s, p, e), 0, 0, (⟨#[]⟩ : ByteArray))) else (some ((s, p, e), k, y, t))))) else (bif (e != 0) then (some ((s, p, e), 0, 0, (⟨#[]⟩ : ByteArray))) else (some ((s, p, e), k, y, t)))) =
    if e = 0 then (if valueB (k, y, t) = true then some ((s, p, 0), k, y, t) else some ((s, p, 3), 0, 0, ⟨#[]⟩)) else some ((s, p, e), 0, 0, ⟨#[]⟩) := by
  by_cases h : e = 0
  · subst h
    rw [refVIs_ok, Option.bind_some]
    cases valueB (k, y, t) <;> simp
  · simp [Bool.cond_eq_ite, h]
theorem rRead_err (s : ByteArray) (p e : Int) (he : e ≠ 0) : V.pleachref06_Read (s, p, e) = some ((s, p, e), 0, 0, ⟨#[]⟩) := by
  refine V.pleachref06_Read.of _ ?_
  unfold F.pleachref06_Read.B
  dsimp only
  rw [rByte_err s p e he, Option.bind_some]
  dsimp only
  simp only [Int.reduceBEq, cond_false]
  exact (rRead_end s p e _ _ _).trans (by rw [if_neg he])
theorem rRead_both (s : ByteArray) (hs : s.size ≤ 140737488351232) (a : Nat) (ha : a ≤ s.size) :
    (∃ v b, valueP s a = some (v, b) ∧ b ≤ s.size ∧ V.pleachref06_Read (s, (a : Int), 0) = some ((s, (b : Int), 0), v)) ∨
    (valueP s a = none ∧ ∃ p e : Int, e ≠ 0 ∧ V.pleachref06_Read (s, (a : Int), 0) = some ((s, p, e), 0, 0, ⟨#[]⟩)) := by
  have B : ∀ {r}, F.pleachref06_Read.B V.pleachref04_Byte V.pleachref04_Int V.pleachref04_Text V.pleachref06_Is (s, (a : Int), 0) = some r → V.pleachref06_Read (s, (a : Int), 0) = some r := V.pleachref06_Read.of _
  unfold F.pleachref06_Read.B at B
  dsimp only at B
  unfold valueP
  rcases rByte_both s hs a ha with ⟨h1, h2⟩ | ⟨h1, h2⟩
  · rw [if_pos h1]
    rw [h2, Option.bind_some] at B
    dsimp only at B
    by_cases c1 : byteAt s (a : Int) = 1
    · rw [if_pos c1]
      rw [c1] at B
      simp only [Int.reduceBEq, cond_true, cond_false] at B
      rcases rByte_both s hs (a + 1) (by omega) with ⟨g1, g2⟩ | ⟨g1, g2⟩
      · rw [if_pos g1]
        rw [g2, Option.bind_some] at B
        dsimp only at B
        have E := rRead_end s ((a + 1 + 1 : Nat) : Int) 0 1 (byteAt s ((a + 1 : Nat) : Int)) ⟨#[]⟩
        rw [if_pos rfl] at E
        by_cases hv : valueB (1, byteAt s ((a + 1 : Nat) : Int), ⟨#[]⟩) = true
        · left; exact ⟨_, a + 2, by rw [if_pos hv], by omega, B (E.trans (by rw [if_pos hv]))⟩
        · right; exact ⟨by rw [if_neg hv], _, 3, by omega, B (E.trans (by rw [if_neg hv]))⟩
      · right
        rw [if_neg g1]
        rw [g2, Option.bind_some] at B
        dsimp only at B
        exact ⟨by first | rfl | trivial, _, 3, by omega, B ((rRead_end s _ 3 _ _ _).trans (by rw [if_neg (by omega)]))⟩
    · rw [if_neg c1]
      rw [show (byteAt s (a : Int) == 1) = false by simp [c1], cond_false] at B
      by_cases c2 : byteAt s (a : Int) = 2
      · rw [if_pos c2]
        rw [c2] at B
        simp only [Int.reduceBEq, cond_true, cond_false] at B
        rcases rInt_both s hs (a + 1) (by omega) with ⟨y, b, g1, g2, g3⟩ | ⟨g1, e, he, g3⟩
        · left
          rw [g3, Option.bind_some] at B
          dsimp only at B
          rw [g1, Option.bind_some]
          exact ⟨(2, y, ⟨#[]⟩), b, rfl, g2, B ((rRead_end s _ 0 _ _ _).trans (by rw [if_pos rfl, if_pos (by simp [valueB, ByteArray.size])]))⟩
        · right
          rw [g3, Option.bind_some] at B
          dsimp only at B
          rw [g1]
          exact ⟨by first | rfl | trivial, _, e, he, B ((rRead_end s _ e _ _ _).trans (by rw [if_neg he]))⟩
      · rw [if_neg c2]
        rw [show (byteAt s (a : Int) == 2) = false by simp [c2], cond_false] at B
        by_cases c3 : byteAt s (a : Int) = 3
        · rw [if_pos c3]
          rw [c3] at B
          simp only [Int.reduceBEq, cond_true, cond_false] at B
          rcases rText_both s hs (a + 1) (by omega) 64 (by omega) with ⟨t, b, g1, g2, g3, g4⟩ | ⟨g1, p, e, he, g3⟩
          · left
            rw [show (64 : Int) = ((64 : Nat) : Int) from rfl, g4, Option.bind_some] at B
            dsimp only at B
            rw [g1, Option.bind_some]
            exact ⟨(3, 0, t), b, rfl, g2, B ((rRead_end s _ 0 _ _ _).trans (by rw [if_pos rfl, if_pos (by simp [valueB, g3])]))⟩
          · right
            rw [show (64 : Int) = ((64 : Nat) : Int) from rfl, g3, Option.bind_some] at B
            dsimp only at B
            rw [g1]
            exact ⟨by first | rfl | trivial, _, e, he, B ((rRead_end s _ e _ _ _).trans (by rw [if_neg he]))⟩
        · rw [if_neg c3]
          rw [show (byteAt s (a : Int) == 3) = false by simp [c3], cond_false] at B
          right
          refine ⟨by first | rfl | trivial, ((a + 1 : Nat) : Int), 3, by omega, B ((rRead_end s _ 0 _ _ _).trans ?_)⟩
          rw [if_pos rfl, if_neg (by simp [valueB, c1, c2, c3])]
  · right
    rw [if_neg h1]
    rw [h2, Option.bind_some] at B
    dsimp only at B
    simp only [Int.reduceBEq, cond_true, cond_false] at B
    exact ⟨by first | rfl | trivial, _, 3, by omega, B rfl⟩
end Go.Proofs.Ytmnadajjgnniaaa.AE
end
section
set_option linter.unusedVariables false
set_option linter.unusedSimpArgs false
set_option maxRecDepth 4000
namespace Go.Proofs.Ytmnadajjgnniaaa.AE
open Go

theorem at_one (s : ByteArray) (a : Nat) (c : Int) (hc : 0 ≤ c ∧ c < 256) : AtB s a (bytesOf [c]) ↔ a < s.size ∧ byteAt s (a : Int) = c := by
  have hz : (bytesOf [c]).size = 1 := strOfNums_size [c]
  unfold AtB
  rw [hz]
  constructor
  · rintro ⟨h1, h2⟩
    refine ⟨by omega, ?_⟩
    rw [← bt_extract s a (by omega), h2]
    have : byteAt (bytesOf [c]) 0 = c := by
      have := bt_data (bytesOf [c]) 0 (by omega)
      rw [show ((0 : Nat) : Int) = 0 from rfl] at this
      rw [this]
      simp [bytesOf, UInt8.toNat_ofNat']
      omega
    exact this
  · rintro ⟨h1, h2⟩
    refine ⟨by omega, ?_⟩
    have hx := bytesOf_bl (s.extract a (a + 1)) 1 (by rw [ByteArray.size_extract]; omega)
    have hb := bt_extract s a h1
    have e1 : bl (s.extract a (a + 1)) 1 0 = [c] := by
      show [byteAt (s.extract a (a + 1)) ((0 : Nat) : Int)] = [c]
      rw [show ((0 : Nat) : Int) = 0 from rfl, hb, h2]
    rw [e1] at hx
    rw [hx]
    apply ByteArray.ext
    apply Array.ext'
    rw [extract_toList, extract_toList, extract_toList, List.drop_zero, List.take_take]
    congr 1
    omega
theorem valueP_iff (s : ByteArray) (a : Nat) (x y : Int) (t : ByteArray) (b : Nat) (ha : a ≤ s.size) :
    valueP s a = some ((x, y, t), b) ↔ valueB (x, y, t) = true ∧ (-9223372036854775808 ≤ y ∧ y ≤ 9223372036854775807) ∧ b = a + (valB (x, y, t)).size ∧ AtB s a (valB (x, y, t)) := by
  have app : bytesOf [1, y] = bytesOf [1] ++ bytesOf [y] := by rw [← strOfNums_append]; rfl
  constructor
  · intro h
    unfold valueP at h
    split at h
    · rename_i h1
      split at h
      · rename_i c1
        split at h
        · rename_i h2
          split at h
          · rename_i hv
            simp only [Option.some.injEq, Prod.mk.injEq] at h
            obtain ⟨⟨rfl, rfl, rfl⟩, rfl⟩ := h
            have hr := bt_range s ((a + 1 : Nat) : Int)
            refine ⟨hv, by omega, ?_⟩
            have hB : valB (1, (byteAt s ((a + 1 : Nat) : Int)), ⟨#[]⟩) = bytesOf [1] ++ bytesOf [byteAt s ((a + 1 : Nat) : Int)] := by
              unfold valB; rw [if_pos hv, if_pos rfl, app]
            rw [hB, at_append, ByteArray.size_append, strOfNums_size, strOfNums_size]
            exact ⟨rfl, (at_one s a 1 (by omega)).2 ⟨h1, c1⟩, (at_one s (a + 1) _ (by omega)).2 ⟨h2, rfl⟩⟩
          · cases h
        · cases h
      · rename_i c1
        split at h
        · rename_i c2
          obtain ⟨⟨z, c⟩, g1, g2⟩ := Option.bind_eq_some_iff.1 h
          simp only [Option.some.injEq, Prod.mk.injEq] at g2
          obtain ⟨⟨rfl, rfl, rfl⟩, rfl⟩ := g2
          obtain ⟨k1, k2, k3⟩ := (intP_iff s (a + 1) z c (by omega)).1 g1
          have hv : valueB (2, z, ⟨#[]⟩) = true := by simp [valueB, ByteArray.size]
          have hB : valB (2, z, ⟨#[]⟩) = bytesOf [2] ++ numB (zig z).toNat := by unfold valB; rw [if_pos hv, if_neg (by omega), if_pos rfl]
          refine ⟨hv, k1, ?_⟩
          rw [hB, at_append, ByteArray.size_append, strOfNums_size]
          exact ⟨by simp; omega, (at_one s a 2 (by omega)).2 ⟨h1, c2⟩, k3⟩
        · rename_i c2
          split at h
          · rename_i c3
            obtain ⟨⟨z, c⟩, g1, g2⟩ := Option.bind_eq_some_iff.1 h
            simp only [Option.some.injEq, Prod.mk.injEq] at g2
            obtain ⟨⟨rfl, rfl, rfl⟩, rfl⟩ := g2
            obtain ⟨k1, k2, k3⟩ := (textP_iff 64 (by omega) s (a + 1) z c (by omega)).1 g1
            have hv : valueB (3, 0, z) = true := by simp [valueB, k1]
            have hB : valB (3, 0, z) = bytesOf [3] ++ textB z := by unfold valB; rw [if_pos hv, if_neg (by omega), if_neg (by omega)]
            refine ⟨hv, by omega, ?_⟩
            rw [hB, at_append, ByteArray.size_append, strOfNums_size]
            exact ⟨by simp; omega, (at_one s a 3 (by omega)).2 ⟨h1, c3⟩, k3⟩
          · cases h
    · cases h
  · rintro ⟨hv, hy, rfl, hA⟩
    unfold valB at hA ⊢
    rw [if_pos hv] at hA ⊢
    have hv' := hv
    unfold valueB at hv'
    by_cases c1 : x = 1
    · subst c1
      simp at hv'
      have ht : t = ⟨#[]⟩ := hv'.2.trans rfl
      subst ht
      rw [if_pos rfl, app] at hA
      rw [if_pos rfl]
      obtain ⟨h1, h2⟩ := (at_append _ _ _ _).1 hA
      rw [strOfNums_size] at h2
      obtain ⟨g1, g2⟩ := (at_one s a 1 (by omega)).1 h1
      obtain ⟨k1, k2⟩ := (at_one s (a + 1) y (by omega)).1 h2
      unfold valueP
      rw [if_pos g1, if_pos g2, if_pos k1, k2, if_pos hv, strOfNums_size]
      rfl
    · by_cases c2 : x = 2
      · subst c2
        simp at hv'
        have ht : t = ⟨#[]⟩ := hv'.trans rfl
        subst ht
        rw [if_neg (by omega), if_pos rfl] at hA
        rw [if_neg (by omega), if_pos rfl]
        obtain ⟨h1, h2⟩ := (at_append _ _ _ _).1 hA
        rw [strOfNums_size] at h2
        obtain ⟨g1, g2⟩ := (at_one s a 2 (by omega)).1 h1
        have := (intP_iff s (a + 1) y (a + 1 + (numB (zig y).toNat).size) (by omega)).2 ⟨hy, rfl, h2⟩
        unfold valueP
        rw [if_pos g1, if_neg (by omega), if_pos g2, this, Option.bind_some, ByteArray.size_append, strOfNums_size]
        simp only [List.length_cons, List.length_nil]
        congr 2
        omega
      · have c3 : x = 3 := by simp [c1, c2] at hv'; exact hv'.1.1
        subst c3
        have hy0 : y = 0 := by simp [c1, c2] at hv'; exact hv'.1
        subst hy0
        have h64 : t.size ≤ 64 := by simp [c1, c2] at hv'; exact hv'
        rw [if_neg (by omega), if_neg (by omega)] at hA
        rw [if_neg (by omega), if_neg (by omega)]
        obtain ⟨h1, h2⟩ := (at_append _ _ _ _).1 hA
        rw [strOfNums_size] at h2
        obtain ⟨g1, g2⟩ := (at_one s a 3 (by omega)).1 h1
        have := (textP_iff 64 (by omega) s (a + 1) t (a + 1 + (textB t).size) (by omega)).2 ⟨h64, rfl, h2⟩
        unfold valueP
        rw [if_pos g1, if_neg (by omega), if_neg (by omega), if_pos g2, this, Option.bind_some, ByteArray.size_append, strOfNums_size]
        simp only [List.length_cons, List.length_nil]
        congr 2
        omega
/-! rows of texts, of properties -/
def textsP (most : Nat) (s : ByteArray) : Nat → Nat → Option (List ByteArray × Nat)
  | 0, a => some ([], a)
  | d + 1, a => (textP most s a).bind fun x => (textsP most s d x.2).bind fun r => some (x.1 :: r.1, r.2)
def propP (most : Nat) (s : ByteArray) (a : Nat) : Option (TProp × Nat) := (textP most s a).bind fun x => (valueP s x.2).bind fun v => some ((⟨x.1, ⟨v.1.1, v.1.2.1, v.1.2.2⟩⟩ : TProp), v.2)
def propsP (most : Nat) (s : ByteArray) : Nat → Nat → Option (List TProp × Nat)
  | 0, a => some ([], a)
  | d + 1, a => (propP most s a).bind fun x => (propsP most s d x.2).bind fun r => some (x.1 :: r.1, r.2)
def catL : List ByteArray → ByteArray
  | [] => ⟨#[]⟩
  | t :: r => textB t ++ catL r
def catQ : List TProp → ByteArray
  | [] => ⟨#[]⟩
  | p :: r => propB p ++ catQ r
theorem catT_eq (l : List ByteArray) : ∀ d i, i + d = l.length → catT l d i = catL (l.drop i)
  | 0, i, h => by rw [List.drop_eq_nil_of_le (by omega)]; rfl
  | d + 1, i, h => by
    have hi : i < l.length := by omega
    have e : rd .str l i = l[i] := rd_get (e := .str) hi
    rw [List.drop_eq_getElem_cons hi, catT, catT_eq l d (i + 1) (by omega), e]
    rfl
theorem catP_eq (l : List TProp) : ∀ d i, i + d = l.length → catP l d i = catQ (l.drop i)
  | 0, i, h => by rw [List.drop_eq_nil_of_le (by omega)]; rfl
  | d + 1, i, h => by
    have hi : i < l.length := by omega
    have e : rd sProp l i = l[i] := rd_get (e := sProp) hi
    rw [List.drop_eq_getElem_cons hi, catP, catP_eq l d (i + 1) (by omega), e]
    rfl
theorem putB_eq (a : List ByteArray) (l : List TProp) : putB a l = numB a.length ++ (catL a ++ (numB l.length ++ catQ l)) := by
  unfold putB
  rw [catT_eq a a.length 0 (by omega), catP_eq l l.length 0 (by omega), List.drop_zero, List.drop_zero]
theorem textsP_iff (most : Nat) (hm : most < 18446744073709551616) (s : ByteArray) : ∀ (d a : Nat) (l : List ByteArray) (b : Nat), a ≤ s.size → (textsP most s d a = some (l, b) ↔ l.length = d ∧ (∀ t ∈ l, t.size ≤ most) ∧ b = a + (catL l).size ∧ AtB s a (catL l))
  | 0, a, l, b, ha => by
    unfold textsP
    constructor
    · intro h
      simp only [Option.some.injEq, Prod.mk.injEq] at h
      obtain ⟨rfl, rfl⟩ := h
      exact ⟨rfl, by simp, by simp [catL, ByteArray.size], at_nil s a ha⟩
    · rintro ⟨h1, _, h3, _⟩
      have : l = [] := List.eq_nil_of_length_eq_zero h1
      subst this
      simp [catL, ByteArray.size] at h3
      rw [h3]
  | d + 1, a, l, b, ha => by
    unfold textsP
    rw [Option.bind_eq_some_iff]
    constructor
    · rintro ⟨⟨t, c⟩, h1, h2⟩
      obtain ⟨⟨r, e⟩, h3, h4⟩ := Option.bind_eq_some_iff.1 h2
      simp only [Option.some.injEq, Prod.mk.injEq] at h4
      obtain ⟨rfl, rfl⟩ := h4
      obtain ⟨g1, g2, g3⟩ := (textP_iff most hm s a t c ha).1 h1
      have hc : c ≤ s.size := by have := g3.1; omega
      obtain ⟨k1, k2, k3, k4⟩ := (textsP_iff most hm s d c r e hc).1 h3
      refine ⟨by simp [k1], ?_, ?_, ?_⟩
      · intro z hz
        rcases List.mem_cons.1 hz with rfl | hz
        · exact g1
        · exact k2 z hz
      · rw [catL, ByteArray.size_append]; omega
      · rw [catL, at_append, ← g2]; exact ⟨g3, k4⟩
    · rintro ⟨h1, h2, h3, h4⟩
      match l, h1 with
      | t :: r, h1 =>
        rw [catL, at_append] at h4
        rw [catL, ByteArray.size_append] at h3
        have hle := h4.1.1
        refine ⟨(t, a + (textB t).size), (textP_iff most hm s a t _ ha).2 ⟨h2 t (by simp), rfl, h4.1⟩, ?_⟩
        refine Option.bind_eq_some_iff.2 ⟨(r, b), (textsP_iff most hm s d _ r b (by omega)).2 ⟨by simpa using h1, fun z hz => h2 z (by simp [hz]), by simp only; omega, h4.2⟩, rfl⟩
/-- A property whose value may be, with a key of at most so many bytes. -/
def propOk (most : Nat) (p : TProp) : Prop := p.1.size ≤ most ∧ valueB p.2 = true ∧ (-9223372036854775808 ≤ p.2.2.1 ∧ p.2.2.1 ≤ 9223372036854775807)
theorem propP_iff (most : Nat) (hm : most < 18446744073709551616) (s : ByteArray) (a : Nat) (p : TProp) (b : Nat) (ha : a ≤ s.size) : propP most s a = some (p, b) ↔ propOk most p ∧ b = a + (propB p).size ∧ AtB s a (propB p) := by
  unfold propP propOk propB
  rw [Option.bind_eq_some_iff, at_append, ByteArray.size_append]
  constructor
  · rintro ⟨⟨t, c⟩, h1, h2⟩
    obtain ⟨⟨⟨x, y, z⟩, e⟩, h3, h4⟩ := Option.bind_eq_some_iff.1 h2
    simp only [Option.some.injEq, Prod.mk.injEq] at h4
    obtain ⟨rfl, rfl⟩ := h4
    obtain ⟨g1, g2, g3⟩ := (textP_iff most hm s a t c ha).1 h1
    have hc : c ≤ s.size := by have := g3.1; omega
    obtain ⟨k1, k2, k3, k4⟩ := (valueP_iff s c x y z e hc).1 h3
    subst g2
    exact ⟨⟨g1, k1, k2⟩, by simp only; omega, g3, k4⟩
  · rintro ⟨⟨h1, h2, h3⟩, h4, h5, h6⟩
    have hle := h5.1
    obtain ⟨t, ⟨x, y, z⟩⟩ := p
    exact ⟨(t, a + (textB t).size), (textP_iff most hm s a t _ ha).2 ⟨h1, rfl, h5⟩, Option.bind_eq_some_iff.2 ⟨((x, y, z), b), (valueP_iff s _ x y z b (by simpa using hle)).2 ⟨h2, h3, by simp only at h4 ⊢; omega, h6⟩, rfl⟩⟩
theorem propsP_iff (most : Nat) (hm : most < 18446744073709551616) (s : ByteArray) : ∀ (d a : Nat) (l : List TProp) (b : Nat), a ≤ s.size → (propsP most s d a = some (l, b) ↔ l.length = d ∧ (∀ p ∈ l, propOk most p) ∧ b = a + (catQ l).size ∧ AtB s a (catQ l))
  | 0, a, l, b, ha => by
    unfold propsP
    constructor
    · intro h
      simp only [Option.some.injEq, Prod.mk.injEq] at h
      obtain ⟨rfl, rfl⟩ := h
      exact ⟨rfl, by simp, by simp [catQ, ByteArray.size], at_nil s a ha⟩
    · rintro ⟨h1, _, h3, _⟩
      have : l = [] := List.eq_nil_of_length_eq_zero h1
      subst this
      simp [catQ, ByteArray.size] at h3
      rw [h3]
  | d + 1, a, l, b, ha => by
    unfold propsP
    rw [Option.bind_eq_some_iff]
    constructor
    · rintro ⟨⟨p, c⟩, h1, h2⟩
      obtain ⟨⟨r, e⟩, h3, h4⟩ := Option.bind_eq_some_iff.1 h2
      simp only [Option.some.injEq, Prod.mk.injEq] at h4
      obtain ⟨rfl, rfl⟩ := h4
      obtain ⟨g1, g2, g3⟩ := (propP_iff most hm s a p c ha).1 h1
      have hc : c ≤ s.size := by have := g3.1; omega
      obtain ⟨k1, k2, k3, k4⟩ := (propsP_iff most hm s d c r e hc).1 h3
      refine ⟨by simp [k1], ?_, ?_, ?_⟩
      · intro z hz
        rcases List.mem_cons.1 hz with rfl | hz
        · exact g1
        · exact k2 z hz
      · rw [catQ, ByteArray.size_append]; omega
      · rw [catQ, at_append, ← g2]; exact ⟨g3, k4⟩
    · rintro ⟨h1, h2, h3, h4⟩
      match l, h1 with
      | p :: r, h1 =>
        rw [catQ, at_append] at h4
        rw [catQ, ByteArray.size_append] at h3
        have hle := h4.1.1
        refine ⟨(p, a + (propB p).size), (propP_iff most hm s a p _ ha).2 ⟨h2 p (by simp), rfl, h4.1⟩, ?_⟩
        refine Option.bind_eq_some_iff.2 ⟨(r, b), (propsP_iff most hm s d _ r b (by omega)).2 ⟨by simpa using h1, fun z hz => h2 z (by simp [hz]), by simp only; omega, h4.2⟩, rfl⟩
/-- Labels and properties whose bytes stand at a place. -/
def readP (most : Nat) (s : ByteArray) (a : Nat) : Option ((List ByteArray × List TProp) × Nat) :=
  (numP 8 s a).bind fun n => (textsP most s n.1 n.2).bind fun t => (numP 8 s t.2).bind fun m => (propsP most s m.1 m.2).bind fun p => some ((t.1, p.1), p.2)
structure Fine (most : Nat) (a : List ByteArray) (l : List TProp) : Prop where
  na : a.length ≤ 8
  nl : l.length ≤ 8
  ta : ∀ t ∈ a, t.size ≤ most
  tl : ∀ p ∈ l, propOk most p
theorem readP_iff (most : Nat) (hm : most < 18446744073709551616) (s : ByteArray) (a : Nat) (x : List ByteArray) (y : List TProp) (b : Nat) (ha : a ≤ s.size) :
    readP most s a = some ((x, y), b) ↔ Fine most x y ∧ b = a + (putB x y).size ∧ AtB s a (putB x y) := by
  unfold readP
  rw [putB_eq, at_append, at_append, at_append, ByteArray.size_append, ByteArray.size_append, ByteArray.size_append, Option.bind_eq_some_iff]
  constructor
  · rintro ⟨⟨n, c⟩, h1, h2⟩
    obtain ⟨⟨t, e⟩, h3, h4⟩ := Option.bind_eq_some_iff.1 h2
    obtain ⟨⟨m, f⟩, h5, h6⟩ := Option.bind_eq_some_iff.1 h4
    obtain ⟨⟨p, g⟩, h7, h8⟩ := Option.bind_eq_some_iff.1 h6
    simp only [Option.some.injEq, Prod.mk.injEq] at h8
    obtain ⟨⟨rfl, rfl⟩, rfl⟩ := h8
    obtain ⟨a1, a2, a3⟩ := (numP_iff 8 (by omega) s a n c ha).1 h1
    have hc : c ≤ s.size := by have := a3.1; omega
    obtain ⟨b1, b2, b3, b4⟩ := (textsP_iff most hm s n c t e hc).1 h3
    have he : e ≤ s.size := by have := b4.1; omega
    obtain ⟨c1, c2, c3⟩ := (numP_iff 8 (by omega) s e m f he).1 h5
    have hf : f ≤ s.size := by have := c3.1; omega
    obtain ⟨d1, d2, d3, d4⟩ := (propsP_iff most hm s m f p g hf).1 h7
    subst b1 d1
    subst a2
    subst b3
    subst c2
    exact ⟨⟨a1, c1, b2, d2⟩, by omega, a3, b4, c3, d4⟩
  · rintro ⟨hF, hb, h1, h2, h3, h4⟩
    have g1 := h1.1
    have g2 := h2.1
    have g3 := h3.1
    refine ⟨(x.length, _), (numP_iff 8 (by omega) s a _ _ ha).2 ⟨hF.na, rfl, h1⟩, Option.bind_eq_some_iff.2 ⟨(x, _), (textsP_iff most hm s _ _ x _ (by simpa using g1)).2 ⟨rfl, hF.ta, rfl, h2⟩, Option.bind_eq_some_iff.2 ⟨(y.length, _), (numP_iff 8 (by omega) s _ _ _ (by simpa using g2)).2 ⟨hF.nl, rfl, h3⟩, Option.bind_eq_some_iff.2 ⟨(y, b), (propsP_iff most hm s _ _ y b (by simpa using g3)).2 ⟨rfl, hF.tl, by simp only; omega, h4⟩, rfl⟩⟩⟩⟩
end Go.Proofs.Ytmnadajjgnniaaa.AE
end
section
set_option linter.unusedVariables false
set_option linter.unusedSimpArgs false
set_option maxRecDepth 4000
namespace Go.Proofs.Ytmnadajjgnniaaa.AE
open Go

/-- What is read behind the labels that are there already. -/
def tailP (most : Nat) (s : ByteArray) (x : List ByteArray) (d a : Nat) : Option ((List ByteArray × List TProp) × Nat) :=
  (textsP most s d a).bind fun t => (numP 8 s t.2).bind fun m => (propsP most s m.1 m.2).bind fun p => some ((x ++ t.1, p.1), p.2)
theorem tailP_succ (most : Nat) (s : ByteArray) (x : List ByteArray) (d a : Nat) : tailP most s x (d + 1) a = (textP most s a).bind fun t => tailP most s (x ++ [t.1]) d t.2 := by
  unfold tailP
  rw [textsP]
  cases textP most s a with
  | none => rfl
  | some t =>
    rw [Option.bind_some, Option.bind_some]
    cases textsP most s d t.2 with
    | none => rfl
    | some r =>
      rw [Option.bind_some, Option.bind_some, Option.bind_some]
      simp
theorem read_l1_err (A : TScanx) (s : ByteArray) (x : List ByteArray) (m : Nat) (hm : m ≤ 8) (p e : Int) (he : e ≠ 0) : ∀ (d i : Nat) (y : List TProp), i + d = m → y.length = i →
    ∃ y', V.elem_read.l11010 A (m : Int) (i : Int) s p e true x y = some (x, y', s, p, e, true)
  | 0, i, y, hi, hy => by
    have B := fun {r} => V.elem_read.l11010.of A (m : Int) (i : Int) s p e true x y (r := r)
    unfold F.elem_read.l11010.B at B
    rw [if_out (by omega)] at B
    exact ⟨y, B rfl⟩
  | d + 1, i, y, hi, hy => by
    have B := fun {r} => V.elem_read.l11010.of A (m : Int) (i : Int) s p e true x y (r := r)
    unfold F.elem_read.l11010.B at B
    rw [if_in (by omega), Text_err s p e he, Option.bind_some] at B
    dsimp only at B
    rw [Read_err s p e he, Option.bind_some] at B
    dsimp only at B
    rw [guard_dec (by simp [nmax]; omega), w64_up (show i < m by omega) (by omega)] at B
    obtain ⟨y', h⟩ := read_l1_err A s x m hm p e he d (i + 1) (y ++ [(⟨#[]⟩, 0, 0, ⟨#[]⟩)]) (by omega) (by simp [hy])
    exact ⟨y', B h⟩
theorem read_l0_err (A : TScanx) (s : ByteArray) (n : Nat) (hn : n ≤ 8) (p e : Int) (he : e ≠ 0) : ∀ (d i : Nat) (x : List ByteArray), i + d = n → x.length = i →
    ∃ x' y', V.elem_read.l1010 A (n : Int) (i : Int) s p e true x = some (x', y', s, p, e, true)
  | 0, i, x, hi, hx => by
    have B := fun {r} => V.elem_read.l1010.of A (n : Int) (i : Int) s p e true x (r := r)
    unfold F.elem_read.l1010.B at B
    rw [if_out (by omega), Num_err s p e he, Option.bind_some] at B
    dsimp only at B
    obtain ⟨y', h⟩ := read_l1_err A s x 0 (by omega) p e he 0 0 [] rfl rfl
    exact ⟨x, y', B h⟩
  | d + 1, i, x, hi, hx => by
    have B := fun {r} => V.elem_read.l1010.of A (n : Int) (i : Int) s p e true x (r := r)
    unfold F.elem_read.l1010.B at B
    rw [if_in (by omega), Text_err s p e he, Option.bind_some] at B
    dsimp only at B
    rw [guard_dec (by simp [nmax]; omega), w64_up (show i < n by omega) (by omega)] at B
    obtain ⟨x', y', h⟩ := read_l0_err A s n hn p e he d (i + 1) (x ++ [⟨#[]⟩]) (by omega) (by simp [hx])
    exact ⟨x', y', B h⟩
theorem read_l1 (A : TScanx) (s : ByteArray) (hs : s.size ≤ 140737488351232) (x : List ByteArray) (m : Nat) (hm : m ≤ 8) : ∀ (d i a : Nat) (y : List TProp), i + d = m → y.length = i → a ≤ s.size →
    (∃ r b, propsP 12 s d a = some (r, b) ∧ b ≤ s.size ∧ V.elem_read.l11010 A (m : Int) (i : Int) s (a : Int) 0 true x y = some (x, (y ++ r), s, (b : Int), 0, true)) ∨
    (propsP 12 s d a = none ∧ ∃ (y' : List TProp) (p e : Int), e ≠ 0 ∧ V.elem_read.l11010 A (m : Int) (i : Int) s (a : Int) 0 true x y = some (x, y', s, p, e, true))
  | 0, i, a, y, hi, hy, ha => by
    have B := fun {r} => V.elem_read.l11010.of A (m : Int) (i : Int) s (a : Int) 0 true x y (r := r)
    unfold F.elem_read.l11010.B at B
    rw [if_out (by omega)] at B
    exact Or.inl ⟨[], a, rfl, ha, by rw [List.append_nil]; exact B rfl⟩
  | d + 1, i, a, y, hi, hy, ha => by
    have B := fun {r} => V.elem_read.l11010.of A (m : Int) (i : Int) s (a : Int) 0 true x y (r := r)
    unfold F.elem_read.l11010.B at B
    rw [if_in (by omega), show (12 : Int) = ((12 : Nat) : Int) from rfl] at B
    rw [propsP, propP]
    rcases Text_both s hs a ha 12 (by omega) with ⟨t, c, h1, hc, h2, h3⟩ | ⟨h1, p, e, he, h3⟩
    · rw [h3, Option.bind_some] at B
      rw [h1, Option.bind_some]
      dsimp only at B ⊢
      rcases Read_both s hs c hc with ⟨v, b, g1, g2, g3⟩ | ⟨g1, p, e, he, g3⟩
      · rw [g3, Option.bind_some] at B
        rw [g1, Option.bind_some, Option.bind_some]
        dsimp only at B ⊢
        rw [guard_dec (by simp [nmax]; omega), w64_up (show i < m by omega) (by omega)] at B
        rcases read_l1 A s hs x m hm d (i + 1) b (y ++ [(t, v.1, v.2.1, v.2.2)]) (by omega) (by simp [hy]) g2 with ⟨r, b', f1, f2, f3⟩ | ⟨f1, y', p, e, he, f3⟩
        · left
          refine ⟨(t, v) :: r, b', ?_, f2, ?_⟩
          · rw [f1]; rfl
          · exact (B f3).trans (by simp)
        · right
          exact ⟨by rw [f1]; rfl, y', p, e, he, B f3⟩
      · rw [g3, Option.bind_some] at B
        rw [g1]
        dsimp only at B ⊢
        rw [guard_dec (by simp [nmax]; omega), w64_up (show i < m by omega) (by omega)] at B
        obtain ⟨y', h⟩ := read_l1_err A s x m hm p e he d (i + 1) (y ++ [(t, 0, 0, ⟨#[]⟩)]) (by omega) (by simp [hy])
        exact Or.inr ⟨rfl, y', p, e, he, B h⟩
    · rw [h3, Option.bind_some] at B
      rw [h1]
      dsimp only at B ⊢
      rw [Read_err s p e he, Option.bind_some] at B
      dsimp only at B
      rw [guard_dec (by simp [nmax]; omega), w64_up (show i < m by omega) (by omega)] at B
      obtain ⟨y', h⟩ := read_l1_err A s x m hm p e he d (i + 1) (y ++ [(⟨#[]⟩, 0, 0, ⟨#[]⟩)]) (by omega) (by simp [hy])
      exact Or.inr ⟨rfl, y', p, e, he, B h⟩
theorem read_l0 (A : TScanx) (s : ByteArray) (hs : s.size ≤ 140737488351232) (n : Nat) (hn : n ≤ 8) : ∀ (d i a : Nat) (x : List ByteArray), i + d = n → x.length = i → a ≤ s.size →
    (∃ u v b, tailP 12 s x d a = some ((u, v), b) ∧ b ≤ s.size ∧ V.elem_read.l1010 A (n : Int) (i : Int) s (a : Int) 0 true x = some (u, v, s, (b : Int), 0, true)) ∨
    (tailP 12 s x d a = none ∧ ∃ (u : List ByteArray) (v : List TProp) (p e : Int), e ≠ 0 ∧ V.elem_read.l1010 A (n : Int) (i : Int) s (a : Int) 0 true x = some (u, v, s, p, e, true))
  | 0, i, a, x, hi, hx, ha => by
    have B := fun {r} => V.elem_read.l1010.of A (n : Int) (i : Int) s (a : Int) 0 true x (r := r)
    unfold F.elem_read.l1010.B at B
    rw [if_out (by omega), show (8 : Int) = ((8 : Nat) : Int) from rfl] at B
    unfold tailP textsP
    rw [Option.bind_some]
    rcases Num_both s hs a ha 8 (by omega) with ⟨m, c, h1, h2⟩ | ⟨h1, e, he, h2⟩
    · obtain ⟨hm, hc⟩ := numP_le ha h1
      rw [h2, Option.bind_some] at B
      rw [h1, Option.bind_some]
      dsimp only at B ⊢
      rcases read_l1 A s hs x m hm m 0 c [] (by omega) rfl hc with ⟨r, b, f1, f2, f3⟩ | ⟨f1, y', p, e, he, f3⟩
      · left
        refine ⟨x, r, b, ?_, f2, ?_⟩
        · rw [f1]; simp
        · exact B f3
      · right
        exact ⟨by rw [f1]; rfl, x, y', p, e, he, B f3⟩
    · rw [h2, Option.bind_some] at B
      rw [h1]
      dsimp only at B ⊢
      obtain ⟨y', h⟩ := read_l1_err A s x 0 (by omega) (a : Int) e he 0 0 [] rfl rfl
      exact Or.inr ⟨rfl, x, y', _, e, he, B h⟩
  | d + 1, i, a, x, hi, hx, ha => by
    have B := fun {r} => V.elem_read.l1010.of A (n : Int) (i : Int) s (a : Int) 0 true x (r := r)
    unfold F.elem_read.l1010.B at B
    rw [if_in (by omega), show (12 : Int) = ((12 : Nat) : Int) from rfl] at B
    rw [tailP_succ]
    rcases Text_both s hs a ha 12 (by omega) with ⟨t, c, h1, hc, h2, h3⟩ | ⟨h1, p, e, he, h3⟩
    · rw [h3, Option.bind_some] at B
      rw [h1, Option.bind_some]
      dsimp only at B ⊢
      rw [guard_dec (by simp [nmax]; omega), w64_up (show i < n by omega) (by omega)] at B
      rcases read_l0 A s hs n hn d (i + 1) c (x ++ [t]) (by omega) (by simp [hx]) hc with ⟨u, v, b, f1, f2, f3⟩ | ⟨f1, u, v, p, e, he, f3⟩
      · exact Or.inl ⟨u, v, b, f1, f2, B f3⟩
      · exact Or.inr ⟨f1, u, v, p, e, he, B f3⟩
    · rw [h3, Option.bind_some] at B
      rw [h1]
      dsimp only at B ⊢
      rw [guard_dec (by simp [nmax]; omega), w64_up (show i < n by omega) (by omega)] at B
      obtain ⟨x', y', h⟩ := read_l0_err A s n hn p e he d (i + 1) (x ++ [⟨#[]⟩]) (by omega) (by simp [hx])
      exact Or.inr ⟨rfl, x', y', p, e, he, B h⟩
theorem read_both (s : ByteArray) (hs : s.size ≤ 140737488351232) (a : Nat) (ha : a ≤ s.size) :
    (∃ u v b, readP 12 s a = some ((u, v), b) ∧ b ≤ s.size ∧ V.elem_read (s, (a : Int), 0, true) = some (u, v, s, (b : Int), 0, true)) ∨
    (readP 12 s a = none ∧ ∃ (u : List ByteArray) (v : List TProp) (p e : Int), e ≠ 0 ∧ V.elem_read (s, (a : Int), 0, true) = some (u, v, s, p, e, true)) := by
  have B := fun {r} => V.elem_read.of (s, (a : Int), 0, true) (r := r)
  unfold F.elem_read.B at B
  dsimp only at B
  unfold readP
  rw [show (8 : Int) = ((8 : Nat) : Int) from rfl] at B
  rcases Num_both s hs a ha 8 (by omega) with ⟨n, c, h1, h2⟩ | ⟨h1, e, he, h2⟩
  · obtain ⟨hn, hc⟩ := numP_le ha h1
    rw [h2, Option.bind_some] at B
    rw [h1, Option.bind_some]
    dsimp only at B ⊢
    have := read_l0 (s, (a : Int), 0, true) s hs n hn n 0 c [] (by omega) rfl hc
    unfold tailP at this
    simp only [List.nil_append] at this
    rcases this with ⟨u, v, b, f1, f2, f3⟩ | ⟨f1, u, v, p, e, he, f3⟩
    · exact Or.inl ⟨u, v, b, f1, f2, B f3⟩
    · exact Or.inr ⟨f1, u, v, p, e, he, B f3⟩
  · rw [h2, Option.bind_some] at B
    rw [h1]
    dsimp only at B ⊢
    obtain ⟨x', y', h⟩ := read_l0_err (s, (a : Int), 0, true) s 0 (by omega) (a : Int) e he 0 0 [] rfl rfl
    exact Or.inr ⟨rfl, x', y', _, e, he, B h⟩
theorem read_err (s : ByteArray) (p e : Int) (he : e ≠ 0) : ∃ u v, V.elem_read (s, p, e, true) = some (u, v, s, p, e, true) := by
  have B := fun {r} => V.elem_read.of (s, p, e, true) (r := r)
  unfold F.elem_read.B at B
  dsimp only at B
  rw [Num_err s p e he, Option.bind_some] at B
  dsimp only at B
  obtain ⟨x', y', h⟩ := read_l0_err (s, p, e, true) s 0 (by omega) p e he 0 0 [] rfl rfl
  exact ⟨x', y', B h⟩
theorem rread_l1_err (A : TScan) (s : ByteArray) (x : List ByteArray) (m : Nat) (hm : m ≤ 8) (p e : Int) (he : e ≠ 0) : ∀ (d i : Nat) (y : List TProp), i + d = m → y.length = i →
    ∃ y', V.pleachref25_read.l111111010 A (m : Int) (i : Int) s p e x y = some ((s, p, e), x, y')
  | 0, i, y, hi, hy => by
    have B := fun {r} => V.pleachref25_read.l111111010.of A (m : Int) (i : Int) s p e x y (r := r)
    unfold F.pleachref25_read.l111111010.B at B
    rw [if_out (by omega)] at B
    exact ⟨y, B rfl⟩
  | d + 1, i, y, hi, hy => by
    have B := fun {r} => V.pleachref25_read.l111111010.of A (m : Int) (i : Int) s p e x y (r := r)
    unfold F.pleachref25_read.l111111010.B at B
    rw [if_in (by omega), rText_err s p e he, Option.bind_some] at B
    dsimp only at B
    rw [rRead_err s p e he, Option.bind_some] at B
    dsimp only at B
    rw [guard_dec (by simp [nmax]; omega), w64_up (show i < m by omega) (by omega)] at B
    obtain ⟨y', h⟩ := rread_l1_err A s x m hm p e he d (i + 1) (y ++ [(⟨#[]⟩, 0, 0, ⟨#[]⟩)]) (by omega) (by simp [hy])
    exact ⟨y', B h⟩
theorem rread_l0_err (A : TScan) (s : ByteArray) (n : Nat) (hn : n ≤ 8) (p e : Int) (he : e ≠ 0) : ∀ (d i : Nat) (x : List ByteArray), i + d = n → x.length = i →
    ∃ x' y', V.pleachref25_read.l1111010 A (n : Int) (i : Int) s p e x = some ((s, p, e), x', y')
  | 0, i, x, hi, hx => by
    have B := fun {r} => V.pleachref25_read.l1111010.of A (n : Int) (i : Int) s p e x (r := r)
    unfold F.pleachref25_read.l1111010.B at B
    rw [if_out (by omega), rNum_err s p e he, Option.bind_some] at B
    dsimp only at B
    obtain ⟨y', h⟩ := rread_l1_err A s x 0 (by omega) p e he 0 0 [] rfl rfl
    exact ⟨x, y', B h⟩
  | d + 1, i, x, hi, hx => by
    have B := fun {r} => V.pleachref25_read.l1111010.of A (n : Int) (i : Int) s p e x (r := r)
    unfold F.pleachref25_read.l1111010.B at B
    rw [if_in (by omega), rText_err s p e he, Option.bind_some] at B
    dsimp only at B
    rw [guard_dec (by simp [nmax]; omega), w64_up (show i < n by omega) (by omega)] at B
    obtain ⟨x', y', h⟩ := rread_l0_err A s n hn p e he d (i + 1) (x ++ [⟨#[]⟩]) (by omega) (by simp [hx])
    exact ⟨x', y', B h⟩
theorem rread_l1 (A : TScan) (s : ByteArray) (hs : s.size ≤ 140737488351232) (x : List ByteArray) (m : Nat) (hm : m ≤ 8) : ∀ (d i a : Nat) (y : List TProp), i + d = m → y.length = i → a ≤ s.size →
    (∃ r b, propsP 100 s d a = some (r, b) ∧ b ≤ s.size ∧ V.pleachref25_read.l111111010 A (m : Int) (i : Int) s (a : Int) 0 x y = some ((s, (b : Int), 0), x, (y ++ r))) ∨
    (propsP 100 s d a = none ∧ ∃ (y' : List TProp) (p e : Int), e ≠ 0 ∧ V.pleachref25_read.l111111010 A (m : Int) (i : Int) s (a : Int) 0 x y = some ((s, p, e), x, y'))
  | 0, i, a, y, hi, hy, ha => by
    have B := fun {r} => V.pleachref25_read.l111111010.of A (m : Int) (i : Int) s (a : Int) 0 x y (r := r)
    unfold F.pleachref25_read.l111111010.B at B
    rw [if_out (by omega)] at B
    exact Or.inl ⟨[], a, rfl, ha, by rw [List.append_nil]; exact B rfl⟩
  | d + 1, i, a, y, hi, hy, ha => by
    have B := fun {r} => V.pleachref25_read.l111111010.of A (m : Int) (i : Int) s (a : Int) 0 x y (r := r)
    unfold F.pleachref25_read.l111111010.B at B
    rw [if_in (by omega), show (100 : Int) = ((100 : Nat) : Int) from rfl] at B
    rw [propsP, propP]
    rcases rText_both s hs a ha 100 (by omega) with ⟨t, c, h1, hc, h2, h3⟩ | ⟨h1, p, e, he, h3⟩
    · rw [h3, Option.bind_some] at B
      rw [h1, Option.bind_some]
      dsimp only at B ⊢
      rcases rRead_both s hs c hc with ⟨v, b, g1, g2, g3⟩ | ⟨g1, p, e, he, g3⟩
      · rw [g3, Option.bind_some] at B
        rw [g1, Option.bind_some, Option.bind_some]
        dsimp only at B ⊢
        rw [guard_dec (by simp [nmax]; omega), w64_up (show i < m by omega) (by omega)] at B
        rcases rread_l1 A s hs x m hm d (i + 1) b (y ++ [(t, v.1, v.2.1, v.2.2)]) (by omega) (by simp [hy]) g2 with ⟨r, b', f1, f2, f3⟩ | ⟨f1, y', p, e, he, f3⟩
        · left
          refine ⟨(t, v) :: r, b', ?_, f2, ?_⟩
          · rw [f1]; rfl
          · exact (B f3).trans (by simp)
        · right
          exact ⟨by rw [f1]; rfl, y', p, e, he, B f3⟩
      · rw [g3, Option.bind_some] at B
        rw [g1]
        dsimp only at B ⊢
        rw [guard_dec (by simp [nmax]; omega), w64_up (show i < m by omega) (by omega)] at B
        obtain ⟨y', h⟩ := rread_l1_err A s x m hm p e he d (i + 1) (y ++ [(t, 0, 0, ⟨#[]⟩)]) (by omega) (by simp [hy])
        exact Or.inr ⟨rfl, y', p, e, he, B h⟩
    · rw [h3, Option.bind_some] at B
      rw [h1]
      dsimp only at B ⊢
      rw [rRead_err s p e he, Option.bind_some] at B
      dsimp only at B
      rw [guard_dec (by simp [nmax]; omega), w64_up (show i < m by omega) (by omega)] at B
      obtain ⟨y', h⟩ := rread_l1_err A s x m hm p e he d (i + 1) (y ++ [(⟨#[]⟩, 0, 0, ⟨#[]⟩)]) (by omega) (by simp [hy])
      exact Or.inr ⟨rfl, y', p, e, he, B h⟩
theorem rread_l0 (A : TScan) (s : ByteArray) (hs : s.size ≤ 140737488351232) (n : Nat) (hn : n ≤ 8) : ∀ (d i a : Nat) (x : List ByteArray), i + d = n → x.length = i → a ≤ s.size →
    (∃ u v b, tailP 100 s x d a = some ((u, v), b) ∧ b ≤ s.size ∧ V.pleachref25_read.l1111010 A (n : Int) (i : Int) s (a : Int) 0 x = some ((s, (b : Int), 0), u, v)) ∨
    (tailP 100 s x d a = none ∧ ∃ (u : List ByteArray) (v : List TProp) (p e : Int), e ≠ 0 ∧ V.pleachref25_read.l1111010 A (n : Int) (i : Int) s (a : Int) 0 x = some ((s, p, e), u, v))
  | 0, i, a, x, hi, hx, ha => by
    have B := fun {r} => V.pleachref25_read.l1111010.of A (n : Int) (i : Int) s (a : Int) 0 x (r := r)
    unfold F.pleachref25_read.l1111010.B at B
    rw [if_out (by omega), show (8 : Int) = ((8 : Nat) : Int) from rfl] at B
    unfold tailP textsP
    rw [Option.bind_some]
    rcases rNum_both s hs a ha 8 (by omega) with ⟨m, c, h1, h2⟩ | ⟨h1, e, he, h2⟩
    · obtain ⟨hm, hc⟩ := numP_le ha h1
      rw [h2, Option.bind_some] at B
      rw [h1, Option.bind_some]
      dsimp only at B ⊢
      rcases rread_l1 A s hs x m hm m 0 c [] (by omega) rfl hc with ⟨r, b, f1, f2, f3⟩ | ⟨f1, y', p, e, he, f3⟩
      · left
        refine ⟨x, r, b, ?_, f2, ?_⟩
        · rw [f1]; simp
        · exact B f3
      · right
        exact ⟨by rw [f1]; rfl, x, y', p, e, he, B f3⟩
    · rw [h2, Option.bind_some] at B
      rw [h1]
      dsimp only at B ⊢
      obtain ⟨y', h⟩ := rread_l1_err A s x 0 (by omega) (a : Int) e he 0 0 [] rfl rfl
      exact Or.inr ⟨rfl, x, y', _, e, he, B h⟩
  | d + 1, i, a, x, hi, hx, ha => by
    have B := fun {r} => V.pleachref25_read.l1111010.of A (n : Int) (i : Int) s (a : Int) 0 x (r := r)
    unfold F.pleachref25_read.l1111010.B at B
    rw [if_in (by omega), show (100 : Int) = ((100 : Nat) : Int) from rfl] at B
    rw [tailP_succ]
    rcases rText_both s hs a ha 100 (by omega) with ⟨t, c, h1, hc, h2, h3⟩ | ⟨h1, p, e, he, h3⟩
    · rw [h3, Option.bind_some] at B
      rw [h1, Option.bind_some]
      dsimp only at B ⊢
      rw [guard_dec (by simp [nmax]; omega), w64_up (show i < n by omega) (by omega)] at B
      rcases rread_l0 A s hs n hn d (i + 1) c (x ++ [t]) (by omega) (by simp [hx]) hc with ⟨u, v, b, f1, f2, f3⟩ | ⟨f1, u, v, p, e, he, f3⟩
      · exact Or.inl ⟨u, v, b, f1, f2, B f3⟩
      · exact Or.inr ⟨f1, u, v, p, e, he, B f3⟩
    · rw [h3, Option.bind_some] at B
      rw [h1]
      dsimp only at B ⊢
      rw [guard_dec (by simp [nmax]; omega), w64_up (show i < n by omega) (by omega)] at B
      obtain ⟨x', y', h⟩ := rread_l0_err A s n hn p e he d (i + 1) (x ++ [⟨#[]⟩]) (by omega) (by simp [hx])
      exact Or.inr ⟨rfl, x', y', p, e, he, B h⟩
theorem rread_both (s : ByteArray) (hs : s.size ≤ 140737488351232) (a : Nat) (ha : a ≤ s.size) :
    (∃ u v b, readP 100 s a = some ((u, v), b) ∧ b ≤ s.size ∧ V.pleachref25_read (s, (a : Int), 0) = some ((s, (b : Int), 0), u, v)) ∨
    (readP 100 s a = none ∧ ∃ (u : List ByteArray) (v : List TProp) (p e : Int), e ≠ 0 ∧ V.pleachref25_read (s, (a : Int), 0) = some ((s, p, e), u, v)) := by
  have B := fun {r} => V.pleachref25_read.of (s, (a : Int), 0) (r := r)
  unfold F.pleachref25_read.B at B
  dsimp only at B
  unfold readP
  rw [show (8 : Int) = ((8 : Nat) : Int) from rfl] at B
  rcases rNum_both s hs a ha 8 (by omega) with ⟨n, c, h1, h2⟩ | ⟨h1, e, he, h2⟩
  · obtain ⟨hn, hc⟩ := numP_le ha h1
    rw [h2, Option.bind_some] at B
    rw [h1, Option.bind_some]
    dsimp only at B ⊢
    have := rread_l0 (s, (a : Int), 0) s hs n hn n 0 c [] (by omega) rfl hc
    unfold tailP at this
    simp only [List.nil_append] at this
    rcases this with ⟨u, v, b, f1, f2, f3⟩ | ⟨f1, u, v, p, e, he, f3⟩
    · exact Or.inl ⟨u, v, b, f1, f2, B f3⟩
    · exact Or.inr ⟨f1, u, v, p, e, he, B f3⟩
  · rw [h2, Option.bind_some] at B
    rw [h1]
    dsimp only at B ⊢
    obtain ⟨x', y', h⟩ := rread_l0_err (s, (a : Int), 0) s 0 (by omega) (a : Int) e he 0 0 [] rfl rfl
    exact Or.inr ⟨rfl, x', y', _, e, he, B h⟩
theorem rread_err (s : ByteArray) (p e : Int) (he : e ≠ 0) : ∃ u v, V.pleachref25_read (s, p, e) = some ((s, p, e), u, v) := by
  have B := fun {r} => V.pleachref25_read.of (s, p, e) (r := r)
  unfold F.pleachref25_read.B at B
  dsimp only at B
  rw [rNum_err s p e he, Option.bind_some] at B
  dsimp only at B
  obtain ⟨x', y', h⟩ := rread_l0_err (s, p, e) s 0 (by omega) p e he 0 0 [] rfl rfl
  exact ⟨x', y', B h⟩
/-! more room for names finds nothing else -/
theorem readP_most (s : ByteArray) (a : Nat) (ha : a ≤ s.size) (m1 m2 : Nat) (h12 : m1 ≤ m2) (h2 : m2 < 18446744073709551616) (x : List ByteArray) (y : List TProp) (b : Nat) (h : readP m1 s a = some ((x, y), b)) : readP m2 s a = some ((x, y), b) := by
  obtain ⟨g1, g2, g3⟩ := (readP_iff m1 (by omega) s a x y b ha).1 h
  exact (readP_iff m2 h2 s a x y b ha).2 ⟨⟨g1.na, g1.nl, fun t ht => Nat.le_trans (g1.ta t ht) h12, fun p hp => ⟨Nat.le_trans (g1.tl p hp).1 h12, (g1.tl p hp).2⟩⟩, g2, g3⟩
end Go.Proofs.Ytmnadajjgnniaaa.AE
end
section
set_option linter.unusedVariables false
set_option linter.unusedSimpArgs false
set_option maxRecDepth 4000
namespace Go.Proofs.Ytmnadajjgnniaaa.AE
open Go

def Ranged (y : List TProp) : Prop := ∀ p ∈ y, -9223372036854775808 ≤ p.2.2.1 ∧ p.2.2.1 ≤ 9223372036854775807
theorem valueB_size {v : TValue} (h : valueB v = true) : v.2.2.size ≤ 64 := by
  unfold valueB at h
  simp only [Bool.or_eq_true, Bool.and_eq_true, beq_iff_eq, decide_eq_true_eq] at h
  omega
theorem Fine.texts {m : Nat} (hm : m ≤ 100) {x : List ByteArray} {y : List TProp} (h : Fine m x y) : okTexts x := ⟨by have := h.na; omega, fun t ht => by have := h.ta t ht; omega⟩
theorem Fine.props {m : Nat} (hm : m ≤ 100) {x : List ByteArray} {y : List TProp} (h : Fine m x y) : okProps y := ⟨by have := h.nl; omega, fun p hp => ⟨by have := (h.tl p hp).1; omega, by have := valueB_size (h.tl p hp).2.1; omega, (h.tl p hp).2.2⟩⟩
theorem Fine.ranged {m : Nat} {x : List ByteArray} {y : List TProp} (h : Fine m x y) : Ranged y := fun p hp => (h.tl p hp).2.2
theorem okProps.ranged {y : List TProp} (h : okProps y) : Ranged y := fun p hp => (h.2 p hp).2.2
theorem fine_rest {x : List ByteArray} {y : List TProp} (h : restN x y = 0) (hr : Ranged y) : Fine 12 x y := by
  obtain ⟨h1, h2, h3⟩ := restN_zero h
  refine ⟨h1, propsN_len h3, ?_, ?_⟩
  · intro t ht
    obtain ⟨i, hi, rfl⟩ := List.mem_iff_getElem.1 ht
    have := nameB_size (rowN_zero h2 hi).1
    rw [rd_get (e := .str) hi] at this
    omega
  · intro p hp
    have hr' := hr p hp
    obtain ⟨i, hi, rfl⟩ := List.mem_iff_getElem.1 hp
    have g := propsN_zero h3 hi
    rw [rd_get (e := sProp) hi] at g
    have := nameB_size g.1
    exact ⟨by omega, g.2.1, hr'⟩
theorem nodeN_rest {n : TNode} (h : nodeN n = 0) : nameB n.1 = true ∧ restN n.2.1 n.2.2 = 0 := by
  unfold nodeN at h
  split at h
  · rename_i g; exact ⟨g, h⟩
  · omega
theorem edgeN_rest {x : TEdge} (h : edgeN x = 0) : nameB x.1 = true ∧ nameB x.2.1 = true ∧ nameB x.2.2.1 = true ∧ restN x.2.2.2.1 x.2.2.2.2 = 0 := by
  unfold edgeN at h
  split at h
  · rename_i g
    simp only [Bool.and_eq_true] at g
    exact ⟨g.1.1, g.1.2, g.2, h⟩
  · omega

/-- The node with an Id, and these bytes. -/
def takeN (id s : ByteArray) : Option TNode := (readP 12 s 0).bind fun r => if nodeN (id, r.1.1, r.1.2) = 0 ∧ r.2 = s.size then some (id, r.1.1, r.1.2) else none
theorem takeN_iff (id s : ByteArray) (n : TNode) : takeN id s = some n ↔ n.1 = id ∧ nodeN n = 0 ∧ Ranged n.2.2 ∧ s = putB n.2.1 n.2.2 := by
  unfold takeN
  rw [Option.bind_eq_some_iff]
  constructor
  · rintro ⟨⟨⟨u, v⟩, b⟩, h1, h2⟩
    split at h2
    · rename_i h3
      simp only [Option.some.injEq] at h2
      subst h2
      obtain ⟨g1, g2, g3⟩ := (readP_iff 12 (by omega) s 0 u v b (by omega)).1 h1
      have h5 := h3.2
      simp only at h5 g2
      exact ⟨rfl, h3.1, g1.ranged, (at_all g3 (by omega)).symm⟩
    · cases h2
  · obtain ⟨i, x, y⟩ := n
    rintro ⟨rfl, h1, h2, rfl⟩
    refine ⟨((x, y), (putB x y).size), (readP_iff 12 (by omega) _ 0 x y _ (by omega)).2 ⟨fine_rest (nodeN_rest h1).2 h2, by omega, at_whole _⟩, ?_⟩
    rw [if_pos ⟨h1, rfl⟩]
theorem takeN_ok {id s : ByteArray} {n : TNode} (hi : id.size ≤ 140737488351232) (h : takeN id s = some n) : okNode n := by
  obtain ⟨h1, h2, h3, h4⟩ := (takeN_iff id s n).1 h
  have f := fine_rest (nodeN_rest h2).2 h3
  exact ⟨by rw [h1]; exact hi, f.texts (by omega), f.props (by omega)⟩
abbrev noN : TNode := (⟨#[]⟩, [], [])
abbrev noE : TEdge := (⟨#[]⟩, ⟨#[]⟩, ⟨#[]⟩, [], [])
theorem New_ok (s : ByteArray) : V.scan_New s = some (s, 0, 0, true) := V.scan_New.of _ rfl
theorem End_ok (s : ByteArray) (p e : Int) : V.scan_Scan_End (s, p, e, true) = some (if e = 0 then (if p < (s.size : Int) then 3 else 0) else e, s, p, if e = 0 then (if p < (s.size : Int) then 3 else 0) else e, true) := by
  refine V.scan_Scan_End.of _ ?_
  unfold F.scan_Scan_End.B
  dsimp only
  simp only [Err_ok, Option.bind_some, meet_self]
  by_cases h : e = 0
  · subst h
    by_cases hp : p < (s.size : Int) <;> simp [hp]
  · simp [Bool.cond_eq_ite, h]
theorem TakeNode_ok (id s : ByteArray) (hi : id.size ≤ 140737488351232) (hs : s.size ≤ 140737488351232) :
    V.elem_TakeNode id s = some (match takeN id s with | some n => (n, 0) | none => (noN, 3)) := by
  have B := fun {r} => V.elem_TakeNode.of id s (r := r)
  unfold F.elem_TakeNode.B at B
  rw [New_ok, Option.bind_some] at B
  dsimp only at B
  unfold takeN
  rcases read_both s hs 0 (by omega) with ⟨u, v, b, h1, hb, h2⟩ | ⟨h1, u, v, p, e, he, h2⟩
  · rw [show ((0 : Nat) : Int) = 0 from rfl] at h2
    rw [h2, Option.bind_some] at B
    rw [h1, Option.bind_some]
    dsimp only at B ⊢
    have hF := ((readP_iff 12 (by omega) s 0 u v b (by omega)).1 h1).1
    rw [End_ok, Option.bind_some, if_pos rfl] at B
    dsimp only at B
    refine B ?_
    by_cases hb' : b = s.size
    · rw [if_neg (show ¬ ((b : Int) < (s.size : Int)) by omega), CheckNode_ok (id, u, v) ⟨hi, hF.texts (by omega), hF.props (by omega)⟩, Option.bind_some]
      by_cases hn : nodeN (id, u, v) = 0
      · rw [if_pos ⟨hn, hb'⟩]; simp [hn]
      · rw [if_neg (fun h => hn h.1)]; simp [Bool.cond_eq_ite, hn]
    · rw [if_pos (show ((b : Int) < (s.size : Int)) by omega), if_neg (fun h => hb' h.2)]
      rfl
  · rw [show ((0 : Nat) : Int) = 0 from rfl] at h2
    rw [h2, Option.bind_some] at B
    rw [h1]
    dsimp only at B ⊢
    rw [End_ok, Option.bind_some, if_neg he] at B
    exact B (by dsimp only; rw [bne_ne he]; rfl)
theorem refTakeNode_ok (id s : ByteArray) (hi : id.size ≤ 140737488351232) (hs : s.size ≤ 140737488351232) :
    V.pleachref25_TakeNode id s = some (match takeN id s with | some n => (n, true) | none => (noN, false)) := by
  have B := fun {r} => V.pleachref25_TakeNode.of id s (r := r)
  unfold F.pleachref25_TakeNode.B at B
  have uniq : ∀ n, takeN id s = some n → readP 100 s 0 = some ((n.2.1, n.2.2), s.size) := by
    intro n h
    obtain ⟨f0, f1, f2, f3⟩ := (takeN_iff id s n).1 h
    have e1 := (readP_iff 12 (by omega) s 0 n.2.1 n.2.2 s.size (by omega)).2 ⟨fine_rest (nodeN_rest f1).2 f2, by rw [← f3]; omega, by rw [← f3]; exact at_whole s⟩
    exact readP_most s 0 (by omega) 12 100 (by omega) (by omega) _ _ _ e1
  rcases rread_both s hs 0 (by omega) with ⟨u, v, b, h1, hb, h2⟩ | ⟨h1, u, v, p, e, he, h2⟩
  · rw [show ((0 : Nat) : Int) = 0 from rfl] at h2
    rw [h2, Option.bind_some] at B
    dsimp only at B
    obtain ⟨hF, g2, g3⟩ := (readP_iff 100 (by omega) s 0 u v b (by omega)).1 h1
    have hok : okNode (id, u, v) := ⟨hi, hF.texts (by omega), hF.props (by omega)⟩
    rw [refNode_ok _ hok, Option.bind_some, refPutNode_ok _ hok, Option.bind_some] at B
    simp only [bne_self_eq_false, cond_false] at B
    refine B ?_
    by_cases hg : nodeN (id, u, v) = 0 ∧ putB u v = s
    · obtain ⟨hn, hp⟩ := hg
      have ht : takeN id s = some (id, u, v) := (takeN_iff id s _).2 ⟨rfl, hn, hF.ranged, hp.symm⟩
      have hB : nodeB (id, u, v) = s := by unfold nodeB; rw [if_pos hn]; exact hp
      rw [ht, hB, strEq_self]
      simp [hn]
    · have hno : takeN id s = none := by
        cases ht : takeN id s with
        | none => rfl
        | some n =>
          have hu := uniq n ht
          rw [h1] at hu
          simp only [Option.some.injEq, Prod.mk.injEq] at hu
          obtain ⟨⟨rfl, rfl⟩, _⟩ := hu
          obtain ⟨f0, f1, f2, f3⟩ := (takeN_iff id s n).1 ht
          have e : n = (id, n.2.1, n.2.2) := by rw [← f0]
          exact absurd ⟨by rw [← e]; exact f1, f3.symm⟩ hg
      rw [hno]
      by_cases hn : nodeN (id, u, v) = 0
      · have hB : nodeB (id, u, v) = putB u v := by unfold nodeB; rw [if_pos hn]
        rw [hB, strEq_no (fun h => hg ⟨hn, h⟩)]
        simp [hn]
      · simp [Bool.cond_eq_ite, hn]
  · rw [show ((0 : Nat) : Int) = 0 from rfl] at h2
    rw [h2, Option.bind_some] at B
    dsimp only at B
    rw [bne_ne he, cond_true] at B
    refine B ?_
    have hno : takeN id s = none := by
      cases ht : takeN id s with
      | none => rfl
      | some n => have hu := uniq n ht; rw [h1] at hu; cases hu
    rw [hno]

/-! edges -/
def edgeP (most : Nat) (s : ByteArray) : Option ((ByteArray × ByteArray × List ByteArray × List TProp) × Nat) :=
  (textP most s 0).bind fun f => (textP most s f.2).bind fun t => (readP most s t.2).bind fun r => some ((f.1, t.1, r.1.1, r.1.2), r.2)
theorem edgeP_iff (most : Nat) (hm : most < 18446744073709551616) (s f t : ByteArray) (x : List ByteArray) (y : List TProp) (b : Nat) :
    edgeP most s = some ((f, t, x, y), b) ↔ (f.size ≤ most ∧ t.size ≤ most ∧ Fine most x y) ∧ b = ((textB f ++ textB t) ++ putB x y).size ∧ AtB s 0 ((textB f ++ textB t) ++ putB x y) := by
  unfold edgeP
  rw [at_append, at_append, ByteArray.size_append, ByteArray.size_append, Option.bind_eq_some_iff]
  constructor
  · rintro ⟨⟨f', c⟩, h1, h2⟩
    obtain ⟨⟨t', d⟩, h3, h4⟩ := Option.bind_eq_some_iff.1 h2
    obtain ⟨⟨⟨x', y'⟩, e⟩, h5, h6⟩ := Option.bind_eq_some_iff.1 h4
    simp only [Option.some.injEq, Prod.mk.injEq] at h6
    obtain ⟨⟨rfl, rfl, rfl, rfl⟩, rfl⟩ := h6
    obtain ⟨a1, a2, a3⟩ := (textP_iff most hm s 0 f' c (by omega)).1 h1
    have hc : c ≤ s.size := by have := a3.1; omega
    obtain ⟨b1, b2, b3⟩ := (textP_iff most hm s c t' d hc).1 h3
    have hd : d ≤ s.size := by have := b3.1; omega
    obtain ⟨c1, c2, c3⟩ := (readP_iff most hm s d x' y' e hd).1 h5
    subst a2
    subst b2
    rw [Nat.zero_add] at b3
    rw [Nat.zero_add] at c3
    exact ⟨⟨a1, b1, c1⟩, by omega, ⟨a3, by rw [Nat.zero_add]; exact b3⟩, by rw [Nat.zero_add]; exact c3⟩
  · rintro ⟨⟨h1, h2, h3⟩, h4, ⟨h5, h6⟩, h7⟩
    have q1 := h5.1
    have q2 := h6.1
    rw [Nat.zero_add] at h6 h7
    refine ⟨(f, _), (textP_iff most hm s 0 f _ (by omega)).2 ⟨h1, rfl, h5⟩, Option.bind_eq_some_iff.2 ⟨(t, _), (textP_iff most hm s _ t _ (by simp only; omega)).2 ⟨h2, rfl, by simpa using h6⟩, Option.bind_eq_some_iff.2 ⟨((x, y), b), (readP_iff most hm s _ x y b (by simp only; omega)).2 ⟨h3, by simp only; omega, by simpa using h7⟩, rfl⟩⟩⟩
theorem edgeP_most (s : ByteArray) (m1 m2 : Nat) (h12 : m1 ≤ m2) (h2 : m2 < 18446744073709551616) (f t : ByteArray) (x : List ByteArray) (y : List TProp) (b : Nat) (h : edgeP m1 s = some ((f, t, x, y), b)) : edgeP m2 s = some ((f, t, x, y), b) := by
  obtain ⟨⟨q1, q2, g1⟩, g2, g3⟩ := (edgeP_iff m1 (by omega) s f t x y b).1 h
  exact (edgeP_iff m2 h2 s f t x y b).2 ⟨⟨by omega, by omega, ⟨g1.na, g1.nl, fun t ht => Nat.le_trans (g1.ta t ht) h12, fun p hp => ⟨Nat.le_trans (g1.tl p hp).1 h12, (g1.tl p hp).2⟩⟩⟩, g2, g3⟩
/-- The edge with an Id, and these bytes. -/
def takeE (id s : ByteArray) : Option TEdge := (edgeP 12 s).bind fun r => if edgeN (id, r.1.1, r.1.2.1, r.1.2.2.1, r.1.2.2.2) = 0 ∧ r.2 = s.size then some (id, r.1.1, r.1.2.1, r.1.2.2.1, r.1.2.2.2) else none
theorem takeE_iff (id s : ByteArray) (n : TEdge) : takeE id s = some n ↔ n.1 = id ∧ edgeN n = 0 ∧ Ranged n.2.2.2.2 ∧ s = (textB n.2.1 ++ textB n.2.2.1) ++ putB n.2.2.2.1 n.2.2.2.2 := by
  unfold takeE
  rw [Option.bind_eq_some_iff]
  constructor
  · rintro ⟨⟨⟨f', t', u, v⟩, b⟩, h1, h2⟩
    split at h2
    · rename_i h3
      simp only [Option.some.injEq] at h2
      subst h2
      obtain ⟨⟨_, _, g1⟩, g2, g3⟩ := (edgeP_iff 12 (by omega) s f' t' u v b).1 h1
      have h5 := h3.2
      simp only at h5
      exact ⟨rfl, h3.1, g1.ranged, (at_all g3 (by omega)).symm⟩
    · cases h2
  · obtain ⟨i, f, t, x, y⟩ := n
    rintro ⟨rfl, h1, h2, rfl⟩
    have hz := edgeN_rest h1
    have e1 := nameB_size hz.2.1
    have e2 := nameB_size hz.2.2.1
    refine ⟨((f, t, x, y), ((textB f ++ textB t) ++ putB x y).size), (edgeP_iff 12 (by omega) _ f t x y _).2 ⟨⟨by dsimp only at e1; omega, by dsimp only at e2; omega, fine_rest hz.2.2.2 h2⟩, rfl, at_whole _⟩, ?_⟩
    rw [if_pos ⟨h1, rfl⟩]
theorem takeE_ok {id s : ByteArray} {n : TEdge} (hi : id.size ≤ 140737488351232) (h : takeE id s = some n) : okEdge n := by
  obtain ⟨h1, h2, h3, h4⟩ := (takeE_iff id s n).1 h
  have hz := edgeN_rest h2
  have e1 := nameB_size hz.2.1
  have e2 := nameB_size hz.2.2.1
  have f := fine_rest hz.2.2.2 h3
  exact ⟨by rw [h1]; exact hi, by omega, by omega, f.texts (by omega), f.props (by omega)⟩
theorem TakeEdge_ok (id s : ByteArray) (hi : id.size ≤ 140737488351232) (hs : s.size ≤ 140737488351232) :
    V.elem_TakeEdge id s = some (match takeE id s with | some n => (n, 0) | none => (noE, 3)) := by
  have B := fun {r} => V.elem_TakeEdge.of id s (r := r)
  unfold F.elem_TakeEdge.B at B
  rw [New_ok, Option.bind_some] at B
  dsimp only at B
  rw [show (12 : Int) = ((12 : Nat) : Int) from rfl] at B
  unfold takeE edgeP
  have bad : ∀ (p e : Int), e ≠ 0 → ∀ (f t : ByteArray) (u : List ByteArray) (v : List TProp), ((V.scan_Scan_End (s, p, e, true)).bind fun t4 => (bif (t4.1 != 0) then (some (noE, (3 : Int))) else ((V.elem_CheckEdge (id, f, t, u, v)).bind fun t5 => (bif (t5 != 0) then (some (noE, 3)) else (some ((id, f, t, u, v), 0)))))) = some (noE, 3) := by
    intro p e he f t u v
    rw [End_ok, if_neg he, Option.bind_some]
    dsimp only
    rw [bne_ne he, cond_true]
  rcases Text_both s hs 0 (by omega) 12 (by omega) with ⟨f, c, h1, hc, h2, h3⟩ | ⟨h1, p, e, he, h3⟩
  · rw [show ((0 : Nat) : Int) = 0 from rfl] at h3
    rw [h3, Option.bind_some] at B
    rw [h1, Option.bind_some]
    dsimp only at B ⊢
    rcases Text_both s hs c hc 12 (by omega) with ⟨t, d, k1, kc, k2, k3⟩ | ⟨k1, p, e, he, k3⟩
    · rw [k3, Option.bind_some] at B
      rw [k1, Option.bind_some]
      dsimp only at B ⊢
      rcases read_both s hs d kc with ⟨u, v, b, g1, gb, g2⟩ | ⟨g1, u, v, p, e, he, g2⟩
      · rw [g2, Option.bind_some] at B
        rw [g1, Option.bind_some, Option.bind_some]
        dsimp only at B ⊢
        have hF := ((readP_iff 12 (by omega) s d u v b kc).1 g1).1
        rw [End_ok, Option.bind_some, if_pos rfl] at B
        dsimp only at B
        refine B ?_
        by_cases hb' : b = s.size
        · rw [if_neg (show ¬ ((b : Int) < (s.size : Int)) by omega), CheckEdge_ok (id, f, t, u, v) ⟨hi, by dsimp only; omega, by dsimp only; omega, hF.texts (by omega), hF.props (by omega)⟩, Option.bind_some]
          by_cases hn : edgeN (id, f, t, u, v) = 0
          · rw [if_pos ⟨hn, hb'⟩]; simp [hn]
          · rw [if_neg (fun h => hn h.1)]; simp [Bool.cond_eq_ite, hn]
        · rw [if_pos (show ((b : Int) < (s.size : Int)) by omega), if_neg (fun h => hb' h.2)]
          rfl
      · rw [g2, Option.bind_some] at B
        rw [g1]
        exact B (bad p e he _ _ _ _)
    · rw [k3, Option.bind_some] at B
      rw [k1]
      dsimp only at B ⊢
      obtain ⟨u, v, g⟩ := read_err s p e he
      rw [g, Option.bind_some] at B
      exact B (bad p e he _ _ _ _)
  · rw [show ((0 : Nat) : Int) = 0 from rfl] at h3
    rw [h3, Option.bind_some] at B
    rw [h1]
    dsimp only at B ⊢
    rw [Text_err s p e he, Option.bind_some] at B
    dsimp only at B
    obtain ⟨u, v, g⟩ := read_err s p e he
    rw [g, Option.bind_some] at B
    exact B (bad p e he _ _ _ _)
theorem refTakeEdge_ok (id s : ByteArray) (hi : id.size ≤ 140737488351232) (hs : s.size ≤ 140737488351232) :
    V.pleachref25_TakeEdge id s = some (match takeE id s with | some n => (n, true) | none => (noE, false)) := by
  have B := fun {r} => V.pleachref25_TakeEdge.of id s (r := r)
  unfold F.pleachref25_TakeEdge.B at B
  rw [show (100 : Int) = ((100 : Nat) : Int) from rfl] at B
  have uniq : ∀ n, takeE id s = some n → edgeP 100 s = some ((n.2.1, n.2.2.1, n.2.2.2.1, n.2.2.2.2), s.size) := by
    intro n h
    obtain ⟨f0, f1, f2, f3⟩ := (takeE_iff id s n).1 h
    have hz := edgeN_rest f1
    have e1 := nameB_size hz.2.1
    have e2 := nameB_size hz.2.2.1
    exact edgeP_most s 12 100 (by omega) (by omega) _ _ _ _ _ ((edgeP_iff 12 (by omega) s n.2.1 n.2.2.1 n.2.2.2.1 n.2.2.2.2 s.size).2 ⟨⟨by omega, by omega, fine_rest hz.2.2.2 f2⟩, by rw [← f3], by rw [← f3]; exact at_whole s⟩)
  have bad : edgeP 100 s = none → ∀ (p e : Int), e ≠ 0 → ∀ (f t : ByteArray) (u : List ByteArray) (v : List TProp), (bif (e != 0) then (some (noE, false)) else ((V.pleachref25_Edge (id, f, t, u, v)).bind fun t3 => (bif (t3 != 0) then (some (noE, false)) else ((V.pleachref25_PutEdge (id, f, t, u, v)).bind fun t4 => (bif (!strEq t4 s) then (some (noE, false)) else (some ((id, f, t, u, v), true))))))) = some (match takeE id s with | some n => (n, true) | none => (noE, false)) := by
    intro hn p e he f t u v
    rw [bne_ne he, cond_true]
    cases ht : takeE id s with
    | none => rfl
    | some n => have hu := uniq n ht; rw [hn] at hu; cases hu
  rcases rText_both s hs 0 (by omega) 100 (by omega) with ⟨f, c, h1, hc, h2, h3⟩ | ⟨h1, p, e, he, h3⟩
  · rw [show ((0 : Nat) : Int) = 0 from rfl] at h3
    rw [h3, Option.bind_some] at B
    dsimp only at B
    rcases rText_both s hs c hc 100 (by omega) with ⟨t, d, k1, kc, k2, k3⟩ | ⟨k1, p, e, he, k3⟩
    · rw [k3, Option.bind_some] at B
      dsimp only at B
      rcases rread_both s hs d kc with ⟨u, v, b, g1, gb, g2⟩ | ⟨g1, u, v, p, e, he, g2⟩
      · rw [g2, Option.bind_some] at B
        dsimp only at B
        have hE : edgeP 100 s = some ((f, t, u, v), b) := by unfold edgeP; rw [h1, Option.bind_some, k1, Option.bind_some, g1]; rfl
        obtain ⟨⟨_, _, hF⟩, q2, q3⟩ := (edgeP_iff 100 (by omega) s f t u v b).1 hE
        have hok : okEdge (id, f, t, u, v) := ⟨hi, by dsimp only; omega, by dsimp only; omega, hF.texts (by omega), hF.props (by omega)⟩
        rw [refEdge_ok _ hok, Option.bind_some, refPutEdge_ok _ hok, Option.bind_some] at B
        simp only [bne_self_eq_false, cond_false] at B
        refine B ?_
        by_cases hg : edgeN (id, f, t, u, v) = 0 ∧ (textB f ++ textB t) ++ putB u v = s
        · obtain ⟨hn, hp⟩ := hg
          have ht : takeE id s = some (id, f, t, u, v) := (takeE_iff id s _).2 ⟨rfl, hn, hF.ranged, hp.symm⟩
          have hB : edgeB (id, f, t, u, v) = s := by unfold edgeB; rw [if_pos hn]; exact hp
          rw [ht, hB, strEq_self]
          simp [hn]
        · have hno : takeE id s = none := by
            cases ht : takeE id s with
            | none => rfl
            | some n =>
              have hu := uniq n ht
              rw [hE] at hu
              simp only [Option.some.injEq, Prod.mk.injEq] at hu
              obtain ⟨⟨rfl, rfl, rfl, rfl⟩, _⟩ := hu
              obtain ⟨f0, f1, f2, f3⟩ := (takeE_iff id s n).1 ht
              have e : n = (id, n.2.1, n.2.2.1, n.2.2.2.1, n.2.2.2.2) := by rw [← f0]
              exact absurd ⟨by rw [← e]; exact f1, f3.symm⟩ hg
          rw [hno]
          by_cases hn : edgeN (id, f, t, u, v) = 0
          · have hB : edgeB (id, f, t, u, v) = (textB f ++ textB t) ++ putB u v := by unfold edgeB; rw [if_pos hn]
            rw [hB, strEq_no (fun h => hg ⟨hn, h⟩)]
            simp [hn]
          · simp [Bool.cond_eq_ite, hn]
      · rw [g2, Option.bind_some] at B
        exact B (bad (by unfold edgeP; rw [h1, Option.bind_some, k1, Option.bind_some, g1]; rfl) p e he _ _ _ _)
    · rw [k3, Option.bind_some] at B
      dsimp only at B
      obtain ⟨u, v, g⟩ := rread_err s p e he
      rw [g, Option.bind_some] at B
      exact B (bad (by unfold edgeP; rw [h1, Option.bind_some, k1]; rfl) p e he _ _ _ _)
  · rw [show ((0 : Nat) : Int) = 0 from rfl] at h3
    rw [h3, Option.bind_some] at B
    dsimp only at B
    rw [rText_err s p e he, Option.bind_some] at B
    dsimp only at B
    obtain ⟨u, v, g⟩ := rread_err s p e he
    rw [g, Option.bind_some] at B
    exact B (bad (by unfold edgeP; rw [h1]; rfl) p e he _ _ _ _)
end Go.Proofs.Ytmnadajjgnniaaa.AE
end
section
set_option linter.unusedVariables false
set_option linter.unusedSimpArgs false
namespace Go.Proofs.Ytmnadajjgnniaaa.AE
open Go

instance decValue : DecidableEq TValue := instDecidableEqProd
instance decProp : DecidableEq TProp := instDecidableEqProd
instance decNode : DecidableEq TNode := instDecidableEqProd
instance decEdge1 : DecidableEq (ByteArray × TNode) := instDecidableEqProd
instance decEdge : DecidableEq TEdge := instDecidableEqProd
instance decGraph : DecidableEq TGraph := instDecidableEqProd
/-- Two rows from a place on. -/
theorem drop_eq {α : Type} [DecidableEq α] {a b : List α} {i : Nat} (ha : i < a.length) (hb : i < b.length) : decide (a.drop i = b.drop i) = (decide (a[i] = b[i]) && decide (a.drop (i + 1) = b.drop (i + 1))) := by
  rw [List.drop_eq_getElem_cons ha, List.drop_eq_getElem_cons hb]
  rw [Bool.eq_iff_iff]
  simp only [decide_eq_true_eq, Bool.and_eq_true, List.cons.injEq]
theorem prop_eq (p q : TProp) : ((strEq p.1 q.1) && ((((p.2).1 == (q.2).1) && ((((p.2).2).1 == ((q.2).2).1) && ((strEq ((p.2).2).2 ((q.2).2).2) && true))) && true)) = decide (p = q) := by
  obtain ⟨a, b, c, d⟩ := p
  obtain ⟨a', b', c', d'⟩ := q
  simp only [strEq_dec, Prod.mk.injEq, Bool.and_true]
  rw [Bool.eq_iff_iff]
  simp
theorem SameTexts_l (a b : List ByteArray) (hl : a.length = b.length) (ha : a.length ≤ 140737488351232) : ∀ d i : Nat, i + d = a.length → V.pleachref25_SameTexts.l11010 a b (i : Int) = some (decide (a.drop i = b.drop i))
  | 0, i, h => by
    refine V.pleachref25_SameTexts.l11010.of _ _ _ ?_
    unfold F.pleachref25_SameTexts.l11010.B
    rw [if_out (by omega), List.drop_eq_nil_of_le (by omega), List.drop_eq_nil_of_le (by omega)]
    simp
  | d + 1, i, h => by
    refine V.pleachref25_SameTexts.l11010.of _ _ _ ?_
    unfold F.pleachref25_SameTexts.l11010.B
    have h1 : i < a.length := by omega
    have h2 : i < b.length := by omega
    rw [if_in h1, guard_in h1, guard_in h2, nat_cast, w64_up h1 ha, SameTexts_l a b hl ha d (i + 1) (by omega), rd_get (e := .str) h1, rd_get (e := .str) h2, strEq_dec, drop_eq h1 h2]
    by_cases hq : a[i] = b[i] <;> simp [hq]
theorem SameTexts_ok (a b : List ByteArray) (ha : a.length ≤ 140737488351232) : V.pleachref25_SameTexts a b = some (decide (a = b)) := by
  refine V.pleachref25_SameTexts.of _ _ ?_
  unfold F.pleachref25_SameTexts.B
  by_cases hl : a.length = b.length
  · have := SameTexts_l a b hl ha a.length 0 (by omega)
    rw [show (0 : Int) = ((0 : Nat) : Int) from rfl, this, hl]
    simp
  · rw [show ((a.length : Int) != (b.length : Int)) = true by simp; omega, cond_true]
    simp only [Option.some.injEq]
    symm
    simp only [decide_eq_false_iff_not]
    intro h; rw [h] at hl; exact hl rfl
theorem SameProps_l (a b : List TProp) (hl : a.length = b.length) (ha : a.length ≤ 140737488351232) : ∀ d i : Nat, i + d = a.length → V.pleachref25_SameProps.l11010 a b (i : Int) = some (decide (a.drop i = b.drop i))
  | 0, i, h => by
    refine V.pleachref25_SameProps.l11010.of _ _ _ ?_
    unfold F.pleachref25_SameProps.l11010.B
    rw [if_out (by omega), List.drop_eq_nil_of_le (by omega), List.drop_eq_nil_of_le (by omega)]
    simp
  | d + 1, i, h => by
    refine V.pleachref25_SameProps.l11010.of _ _ _ ?_
    unfold F.pleachref25_SameProps.l11010.B
    have h1 : i < a.length := by omega
    have h2 : i < b.length := by omega
    rw [if_in h1, guard_in h1, guard_in h2, nat_cast, w64_up h1 ha, SameProps_l a b hl ha d (i + 1) (by omega), prop_eq, rd_get (e := sProp) h1, rd_get (e := sProp) h2, drop_eq h1 h2]
    by_cases hq : a[i] = b[i] <;> simp [hq]
theorem SameProps_ok (a b : List TProp) (ha : a.length ≤ 140737488351232) : V.pleachref25_SameProps a b = some (decide (a = b)) := by
  refine V.pleachref25_SameProps.of _ _ ?_
  unfold F.pleachref25_SameProps.B
  by_cases hl : a.length = b.length
  · have := SameProps_l a b hl ha a.length 0 (by omega)
    rw [show (0 : Int) = ((0 : Nat) : Int) from rfl, this, hl]
    simp
  · rw [show ((a.length : Int) != (b.length : Int)) = true by simp; omega, cond_true]
    simp only [Option.some.injEq]
    symm
    simp only [decide_eq_false_iff_not]
    intro h; rw [h] at hl; exact hl rfl
theorem SameNode_ok (a b : TNode) (h1 : a.2.1.length ≤ 140737488351232) (h2 : a.2.2.length ≤ 140737488351232) : V.pleachref25_SameNode a b = some (decide (a = b)) := by
  refine V.pleachref25_SameNode.of _ _ ?_
  unfold F.pleachref25_SameNode.B
  obtain ⟨i, x, y⟩ := a
  obtain ⟨i', x', y'⟩ := b
  rw [SameTexts_ok _ _ h1, SameProps_ok _ _ h2, strEq_dec]
  simp only [Prod.mk.injEq, Option.bind_some]
  by_cases e1 : i = i' <;> by_cases e2 : x = x' <;> by_cases e3 : y = y' <;> simp [e1, e2, e3]
theorem SameEdge_ok (a b : TEdge) (h1 : a.2.2.2.1.length ≤ 140737488351232) (h2 : a.2.2.2.2.length ≤ 140737488351232) : V.pleachref25_SameEdge a b = some (decide (a = b)) := by
  refine V.pleachref25_SameEdge.of _ _ ?_
  unfold F.pleachref25_SameEdge.B
  obtain ⟨i, f, t, x, y⟩ := a
  obtain ⟨i', f', t', x', y'⟩ := b
  rw [SameTexts_ok _ _ h1, SameProps_ok _ _ h2, strEq_dec, strEq_dec, strEq_dec]
  simp only [Prod.mk.injEq, Option.bind_some]
  by_cases e1 : i = i' <;> by_cases e4 : f = f' <;> by_cases e5 : t = t' <;> by_cases e2 : x = x' <;> by_cases e3 : y = y' <;> simp [e1, e2, e3, e4, e5]
/-- As many parts as fit. -/
structure Fits (g : TGraph) : Prop where
  ns : g.1.length ≤ 140737488351232
  es : g.2.length ≤ 140737488351232
  n : ∀ n ∈ g.1, n.2.1.length ≤ 140737488351232 ∧ n.2.2.length ≤ 140737488351232
  e : ∀ x ∈ g.2, x.2.2.2.1.length ≤ 140737488351232 ∧ x.2.2.2.2.length ≤ 140737488351232
theorem Same_l1 (a b : TGraph) (hf : Fits a) (hl : a.2.length = b.2.length) : ∀ d i : Nat, i + d = a.2.length → V.pleachref26_Same.l111010 a b (i : Int) = some (decide (a.2.drop i = b.2.drop i))
  | 0, i, h => by
    refine V.pleachref26_Same.l111010.of _ _ _ ?_
    unfold F.pleachref26_Same.l111010.B
    rw [if_out (by omega), List.drop_eq_nil_of_le (by omega), List.drop_eq_nil_of_le (by omega)]
    simp
  | d + 1, i, h => by
    refine V.pleachref26_Same.l111010.of _ _ _ ?_
    unfold F.pleachref26_Same.l111010.B
    have h1 : i < a.2.length := by omega
    have h2 : i < b.2.length := by omega
    have he := hf.e _ (rd_mem (e := sEdge) h1)
    rw [if_in h1, guard_in h1, guard_in h2, nat_cast, w64_up h1 hf.es, Same_l1 a b hf hl d (i + 1) (by omega), SameEdge_ok _ _ he.1 he.2, Option.bind_some]
    rw [rd_get (e := sEdge) h1, rd_get (e := sEdge) h2, drop_eq h1 h2]
    by_cases hq : a.2[i] = b.2[i] <;> simp [hq]
theorem Same_l0 (a b : TGraph) (hf : Fits a) (hl : a.1.length = b.1.length) (hl2 : a.2.length = b.2.length) : ∀ d i : Nat, i + d = a.1.length → V.pleachref26_Same.l11010 a b (i : Int) = some (decide (a.1.drop i = b.1.drop i) && decide (a.2 = b.2))
  | 0, i, h => by
    refine V.pleachref26_Same.l11010.of _ _ _ ?_
    unfold F.pleachref26_Same.l11010.B
    have := Same_l1 a b hf hl2 a.2.length 0 (by omega)
    rw [if_out (by omega), List.drop_eq_nil_of_le (by omega), List.drop_eq_nil_of_le (by omega), show (0 : Int) = ((0 : Nat) : Int) from rfl, this]
    simp
  | d + 1, i, h => by
    refine V.pleachref26_Same.l11010.of _ _ _ ?_
    unfold F.pleachref26_Same.l11010.B
    have h1 : i < a.1.length := by omega
    have h2 : i < b.1.length := by omega
    have he := hf.n _ (rd_mem (e := sNode) h1)
    rw [if_in h1, guard_in h1, guard_in h2, nat_cast, w64_up h1 hf.ns, Same_l0 a b hf hl hl2 d (i + 1) (by omega), SameNode_ok _ _ he.1 he.2, Option.bind_some]
    rw [rd_get (e := sNode) h1, rd_get (e := sNode) h2, drop_eq h1 h2]
    by_cases hq : a.1[i] = b.1[i] <;> simp [hq]
theorem Same_ok (a b : TGraph) (hf : Fits a) : V.pleachref26_Same a b = some (decide (a = b)) := by
  refine V.pleachref26_Same.of _ _ ?_
  unfold F.pleachref26_Same.B
  by_cases h1 : a.1.length = b.1.length
  · by_cases h2 : a.2.length = b.2.length
    · have := Same_l0 a b hf h1 h2 a.1.length 0 (by omega)
      rw [show (0 : Int) = ((0 : Nat) : Int) from rfl, this, h1, h2]
      obtain ⟨x, y⟩ := a
      obtain ⟨x', y'⟩ := b
      simp
    · rw [show ((a.2.length : Int) != (b.2.length : Int)) = true by simp; omega, h1]
      simp
      intro h; rw [h] at h2; exact h2 rfl
  · rw [show ((a.1.length : Int) != (b.1.length : Int)) = true by simp; omega, cond_true]
    simp
    intro h; rw [h] at h1; exact h1 rfl
end Go.Proofs.Ytmnadajjgnniaaa.AE
end
section
set_option linter.unusedVariables false
set_option linter.unusedSimpArgs false
set_option maxRecDepth 4000
namespace Go.Proofs.Ytmnadajjgnniaaa.AE
open Go

def nodeOr (x : TEntry) : TNode := (takeN x.1 x.2).getD noN
def badN (x : TEntry) : Bool := (takeN x.1 x.2).isNone
def edgeOr (x : TEntry) : TEdge := (takeE x.1 x.2).getD noE
def badE (x : TEntry) : Bool := (takeE x.1 x.2).isNone
structure okMap (l : List TEntry) : Prop where
  len : l.length ≤ 140737488351232
  at_ : ∀ x ∈ l, x.1.size ≤ 140737488351232 ∧ x.2.size ≤ 140737488351232
theorem TakeNodes_l (l : List TEntry) (hl : l.length ≤ 60) (ho : okMap l) : ∀ (d i : Nat) (acc : List TNode), i + d = l.length → acc.length = i →
    V.keys_TakeNodes.l11010 l (i : Int) acc = some (if (l.drop i).any badN then ([], 3) else (acc ++ (l.drop i).map nodeOr, 0))
  | 0, i, acc, h, ha => by
    refine V.keys_TakeNodes.l11010.of _ _ _ ?_
    unfold F.keys_TakeNodes.l11010.B
    rw [if_out (by omega), List.drop_eq_nil_of_le (by omega)]
    simp
  | d + 1, i, acc, h, ha => by
    refine V.keys_TakeNodes.l11010.of _ _ _ ?_
    unfold F.keys_TakeNodes.l11010.B
    have hi : i < l.length := by omega
    have hx := ho.at_ _ (rd_mem (e := sEntry) hi)
    rw [if_in hi, guard_in hi, nat_cast, TakeNode_ok _ _ hx.1 hx.2, Option.bind_some, drop_rd (e := sEntry) hi]
    have hn : nodeOr (rd sEntry l i) = (takeN (rd sEntry l i).1 (rd sEntry l i).2).getD noN := rfl
    have hb : badN (rd sEntry l i) = (takeN (rd sEntry l i).1 (rd sEntry l i).2).isNone := rfl
    have ih := fun n : TNode => TakeNodes_l l hl ho d (i + 1) (acc ++ [n]) (by omega) (by simp [ha])
    generalize rd sEntry l i = x at *
    cases ht : takeN x.1 x.2 with
    | none => rw [ht] at hb; simp [hb]
    | some n =>
      rw [ht] at hn hb
      dsimp only
      rw [guard_dec (by simp [nmax]; omega), w64_up hi (by omega), ih]
      obtain ⟨n1, n2, n3⟩ := n
      rw [List.any_cons, List.map_cons, show badN x = false from hb, show nodeOr x = (n1, n2, n3) from hn, Bool.false_or, List.append_assoc]
      rfl
theorem TakeNodes_ok (l : List TEntry) (hl : l.length ≤ 60) (ho : okMap l) : V.keys_TakeNodes l = some (if l.any badN then ([], 3) else (l.map nodeOr, 0)) := by
  refine V.keys_TakeNodes.of _ ?_
  unfold F.keys_TakeNodes.B
  have := TakeNodes_l l hl ho l.length 0 [] (by omega) rfl
  rw [List.drop_zero, List.nil_append] at this
  exact this
theorem TakeEdges_l (l : List TEntry) (hl : l.length ≤ 60) (ho : okMap l) : ∀ (d i : Nat) (acc : List TEdge), i + d = l.length → acc.length = i →
    V.keys_TakeEdges.l11010 l (i : Int) acc = some (if (l.drop i).any badE then ([], 3) else (acc ++ (l.drop i).map edgeOr, 0))
  | 0, i, acc, h, ha => by
    refine V.keys_TakeEdges.l11010.of _ _ _ ?_
    unfold F.keys_TakeEdges.l11010.B
    rw [if_out (by omega), List.drop_eq_nil_of_le (by omega)]
    simp
  | d + 1, i, acc, h, ha => by
    refine V.keys_TakeEdges.l11010.of _ _ _ ?_
    unfold F.keys_TakeEdges.l11010.B
    have hi : i < l.length := by omega
    have hx := ho.at_ _ (rd_mem (e := sEntry) hi)
    rw [if_in hi, guard_in hi, nat_cast, TakeEdge_ok _ _ hx.1 hx.2, Option.bind_some, drop_rd (e := sEntry) hi]
    have hn : edgeOr (rd sEntry l i) = (takeE (rd sEntry l i).1 (rd sEntry l i).2).getD noE := rfl
    have hb : badE (rd sEntry l i) = (takeE (rd sEntry l i).1 (rd sEntry l i).2).isNone := rfl
    have ih := fun n : TEdge => TakeEdges_l l hl ho d (i + 1) (acc ++ [n]) (by omega) (by simp [ha])
    generalize rd sEntry l i = x at *
    cases ht : takeE x.1 x.2 with
    | none => rw [ht] at hb; simp [hb]
    | some n =>
      rw [ht] at hn hb
      dsimp only
      rw [guard_dec (by simp [nmax]; omega), w64_up hi (by omega), ih]
      obtain ⟨n1, n2, n3, n4, n5⟩ := n
      rw [List.any_cons, List.map_cons, show badE x = false from hb, show edgeOr x = (n1, n2, n3, n4, n5) from hn, Bool.false_or, List.append_assoc]
      rfl
theorem TakeEdges_ok (l : List TEntry) (hl : l.length ≤ 60) (ho : okMap l) : V.keys_TakeEdges l = some (if l.any badE then ([], 3) else (l.map edgeOr, 0)) := by
  refine V.keys_TakeEdges.of _ ?_
  unfold F.keys_TakeEdges.B
  have := TakeEdges_l l hl ho l.length 0 [] (by omega) rfl
  rw [List.drop_zero, List.nil_append] at this
  exact this
theorem Few20_l (l : List TEntry) (m : Int) (hl : l.length ≤ 140737488351232) : ∀ (d i : Nat) (n : Int), i + d = l.length → ∃ r, V.pleachref20_Few.l11010 l m n (i : Int) = some r ∧ (r = true → (l.length : Int) ≤ m)
  | 0, i, n, h => by
    have B := fun {r} => V.pleachref20_Few.l11010.of l m n (i : Int) (r := r)
    unfold F.pleachref20_Few.l11010.B at B
    rw [if_out (by omega)] at B
    by_cases hm : (l.length : Int) ≤ m
    · exact ⟨_, B (by rw [if_yes hm]), fun _ => hm⟩
    · exact ⟨false, B (by rw [if_no hm]), fun h => by cases h⟩
  | d + 1, i, n, h => by
    have B := fun {r} => V.pleachref20_Few.l11010.of l m n (i : Int) (r := r)
    unfold F.pleachref20_Few.l11010.B at B
    have hi : i < l.length := by omega
    rw [if_in hi, guard_in hi, guard_in hi, w64_up hi hl] at B
    by_cases hm : (i : Int) ≤ m
    · rw [if_yes hm] at B
      obtain ⟨r, h1, h2⟩ := Few20_l l m hl d (i + 1) (w64 ((w64 (n + (if 10000 < (((rd sEntry l (i : Int).toNat).1).size : Int) then 10000 else (((rd sEntry l (i : Int).toNat).1).size : Int)))) + (if 10000 < (((rd sEntry l (i : Int).toNat).2).size : Int) then 10000 else (((rd sEntry l (i : Int).toNat).2).size : Int)))) (by omega)
      exact ⟨r, B h1, h2⟩
    · rw [if_no hm] at B
      by_cases hm : (l.length : Int) ≤ m
      · exact ⟨_, B (by rw [if_yes hm]), fun _ => hm⟩
      · exact ⟨false, B (by rw [if_no hm]), fun h => by cases h⟩
theorem Few20_ok (l : List TEntry) (m : Int) (hl : l.length ≤ 140737488351232) : ∃ r, V.pleachref20_Few l m = some r ∧ (r = true → (l.length : Int) ≤ m) := by
  obtain ⟨r, h1, h2⟩ := Few20_l l m hl l.length 0 0 (by omega)
  exact ⟨r, V.pleachref20_Few.of _ _ h1, h2⟩
theorem awake31_ok : V.pleachlaw31_awake = some true := by
  refine V.pleachlaw31_awake.of ?_
  unfold F.pleachlaw31_awake.B
  have e : V.keys_Of (⟨#[97]⟩ : ByteArray) (⟨#[120]⟩ : ByteArray) = some ((⟨#[97]⟩ ++ ⟨#[0]⟩) ++ ⟨#[120]⟩, 0) := by
    refine V.keys_Of.of _ _ ?_
    unfold F.keys_Of.B
    have n1 : nameB (⟨#[97]⟩ : ByteArray) = true := by decide
    have n2 : nameB (⟨#[120]⟩ : ByteArray) = true := by decide
    rw [name_Check_ok _ (by decide), name_Check_ok _ (by decide), n1, n2]
    rfl
  rw [e, Option.bind_some, show ((⟨#[97]⟩ : ByteArray) ++ ⟨#[0]⟩) ++ ⟨#[120]⟩ = ⟨#[97, 0, 120]⟩ by decide +kernel]
  dsimp only
  rw [strEq_self]
  rfl
theorem KeysTake_l (l : List TEntry) (hl : l.length ≤ 60) (ho : okMap l) : ∀ (d i : Nat), i + d = l.length →
    V.pleachlaw31_KeysTake.l1111010 l ((l.take i).any badN) ((l.take i).any badE) (i : Int) ((l.take i).map nodeOr) ((l.take i).map edgeOr) = some true
  | 0, i, h => by
    refine V.pleachlaw31_KeysTake.l1111010.of _ _ _ _ _ _ ?_
    unfold F.pleachlaw31_KeysTake.l1111010.B
    rw [if_out (by omega), TakeNodes_ok l hl ho, TakeEdges_ok l hl ho]
    simp only [Option.bind_some]
    have hi : i = l.length := by omega
    subst hi
    rw [List.take_length]
    -- the end
    have fits : ∀ (a b : Bool), Fits ((if a then ([] : List TNode) else l.map nodeOr), (if b then ([] : List TEdge) else l.map edgeOr)) := by
      intro a b
      have okn : ∀ n ∈ l.map nodeOr, n.2.1.length ≤ 140737488351232 ∧ n.2.2.length ≤ 140737488351232 := by
        intro n hn
        obtain ⟨x, hx, rfl⟩ := List.mem_map.1 hn
        unfold nodeOr
        cases ht : takeN x.1 x.2 with
        | none => exact ⟨by simp, by simp⟩
        | some n =>
          have := takeN_ok (ho.at_ x hx).1 ht
          exact ⟨this.la.1, this.pr.1⟩
      have oke : ∀ n ∈ l.map edgeOr, n.2.2.2.1.length ≤ 140737488351232 ∧ n.2.2.2.2.length ≤ 140737488351232 := by
        intro n hn
        obtain ⟨x, hx, rfl⟩ := List.mem_map.1 hn
        unfold edgeOr
        cases ht : takeE x.1 x.2 with
        | none => exact ⟨by simp, by simp⟩
        | some n =>
          have := takeE_ok (ho.at_ x hx).1 ht
          exact ⟨this.la.1, this.pr.1⟩
      constructor
      · cases a <;> simp; omega
      · cases b <;> simp; omega
      · cases a
        · exact okn
        · simp
      · cases b
        · exact oke
        · simp
    have fin : ∀ a b : Bool, V.pleachlaw31_KeysTake.j111111111 l a b (if a then 3 else 0) (if b then 3 else 0) (if a then [] else l.map nodeOr) (if b then [] else l.map edgeOr) (if a then [] else l.map nodeOr) (if b then [] else l.map edgeOr) = some true := by
      intro a b
      refine V.pleachlaw31_KeysTake.j111111111.of _ _ _ _ _ _ _ _ _ ?_
      unfold F.pleachlaw31_KeysTake.j111111111.B
      rw [Same_ok _ _ (fits a b), awake31_ok]
      cases a <;> cases b <;> simp
    have mid : ∀ a b : Bool, V.pleachlaw31_KeysTake.j11111111 l a b (if a then 3 else 0) (if b then 3 else 0) (if a then [] else l.map nodeOr) (if b then [] else l.map edgeOr) (if a then [] else l.map nodeOr) (l.map edgeOr) = some true := by
      intro a b
      refine V.pleachlaw31_KeysTake.j11111111.of _ _ _ _ _ _ _ _ _ ?_
      unfold F.pleachlaw31_KeysTake.j11111111.B
      have := fin a b
      cases b
      · exact this
      · exact this
    have := mid (l.any badN) (l.any badE)
    cases ha : l.any badN <;> cases hb : l.any badE <;> rw [ha, hb] at this <;> exact this
  | d + 1, i, h => by
    refine V.pleachlaw31_KeysTake.l1111010.of _ _ _ _ _ _ ?_
    unfold F.pleachlaw31_KeysTake.l1111010.B
    have hi : i < l.length := by omega
    have hx := ho.at_ _ (rd_mem (e := sEntry) hi)
    have ih := KeysTake_l l hl ho d (i + 1) (by omega)
    rw [take_rd (e := sEntry) hi] at ih
    simp only [List.any_append, List.any_cons, List.any_nil, Bool.or_false, List.map_append, List.map_cons, List.map_nil] at ih
    have step : ∀ (a b : Bool) (x : List TNode) (y : List TEdge), V.pleachlaw31_KeysTake.l1111010 l a b ((i + 1 : Nat) : Int) x y = some true → V.pleachlaw31_KeysTake.j11110100111 l a b (i : Int) x y = some true := by
      intro a b x y hh
      refine V.pleachlaw31_KeysTake.j11110100111.of _ _ _ _ _ _ ?_
      unfold F.pleachlaw31_KeysTake.j11110100111.B
      rw [w64_up hi (by omega)]
      exact hh
    have put : ∀ (a b : Bool) (n : TNode) (e : TEdge), V.pleachlaw31_KeysTake.l1111010 l a b ((i + 1 : Nat) : Int) ((l.take i).map nodeOr ++ [n]) ((l.take i).map edgeOr ++ [e]) = some true →
        V.pleachlaw31_KeysTake.j1111010011001111 l a b (i : Int) n.1 n.2.1 n.2.2 e.1 e.2.1 e.2.2.1 e.2.2.2.1 e.2.2.2.2 ((l.take i).map nodeOr) ((l.take i).map edgeOr) = some true := by
      intro a b n e hh
      refine V.pleachlaw31_KeysTake.j1111010011001111.of _ _ _ _ _ _ _ _ _ _ _ _ _ _ ?_
      unfold F.pleachlaw31_KeysTake.j1111010011001111.B
      simp only [guard_dec (show ((l.take i).map nodeOr).length + ([(n.1, n.2.1, n.2.2)] : List TNode).length ≤ nmax by simp [nmax]; omega), guard_dec (show ((l.take i).map edgeOr).length + ([(e.1, e.2.1, e.2.2.1, e.2.2.2.1, e.2.2.2.2)] : List TEdge).length ≤ nmax by simp [nmax]; omega), meet_self]
      exact step a b _ _ hh
    have r1 : V.pleachref25_TakeNode (rd sEntry l i).1 (rd sEntry l i).2 = some (nodeOr (rd sEntry l i), !badN (rd sEntry l i)) := by
      rw [refTakeNode_ok _ _ hx.1 hx.2]
      unfold nodeOr badN
      cases takeN (rd sEntry l i).1 (rd sEntry l i).2 <;> rfl
    have r2 : V.pleachref25_TakeEdge (rd sEntry l i).1 (rd sEntry l i).2 = some (edgeOr (rd sEntry l i), !badE (rd sEntry l i)) := by
      rw [refTakeEdge_ok _ _ hx.1 hx.2]
      unfold edgeOr badE
      cases takeE (rd sEntry l i).1 (rd sEntry l i).2 <;> rfl
    rw [if_in hi, guard_in hi, nat_cast, r1, Option.bind_some, r2, Option.bind_some]
    simp only [Bool.not_not]
    have key := put _ _ _ _ ih
    cases ha : (l.take i).any badN <;> cases hb : (l.take i).any badE <;> rw [ha, hb] at key <;> simpa using key
theorem KeysTake_pure (l : List TEntry) (ho : okMap l) : V.pleachlaw31_KeysTake l = some true := by
  refine V.pleachlaw31_KeysTake.of _ ?_
  unfold F.pleachlaw31_KeysTake.B
  obtain ⟨r, h1, h2⟩ := Few20_ok l 60 ho.len
  rw [h1, Option.bind_some, awake31_ok]
  cases r with
  | false => rfl
  | true =>
    have := KeysTake_l l (by have := h2 rfl; omega) ho l.length 0 (by omega)
    exact this
end Go.Proofs.Ytmnadajjgnniaaa.AE
end
section
namespace Go.Proofs.Ytmnadajjgnniaaa.AE
open Go Go.ChangeShapes Go.WideShapes Go.ChangeAt Go.RowKit
theorem weights_each {H : Type} {P : Program} {p : Nat → Bool} {ts : List TypeId} {ds : List (DataW H)} (h : (DataW.weightsEach P ts ds).all p = true) {j : Nat} {t : TypeId} {d : DataW H} (ht : ts[j]? = some t) (hd : ds[j]? = some d) : ∀ n ∈ d.weights P t, p n = true :=
  fun n hn => List.all_eq_true.1 h _ (DataW.weights_mem_each ht hd n hn)
theorem own : ownKnob Try.prog.godebug = none := by kernel_rfl
theorem laidOut : laidOutB Try.prog = true := by kernel_rfl
theorem mix : Try.prog.follows .mixedOrders = true := by kernel_rfl
theorem numGoB : (Try.prog.funcs.all fun fn => !(fn.name == "runtime.NumGoroutine")) = true := by kernel_rfl
theorem num (f : FuncId) (fn : Func) (h : Try.prog.funcs[f]? = some fn) : (fn.name == "runtime.NumGoroutine") = false := by
  have := Array.all_eq_true_iff_forall_mem.1 numGoB fn (Array.mem_of_getElem? h)
  simpa using this
end Go.Proofs.Ytmnadajjgnniaaa.AE
end
section
namespace Go.Proofs.Ytmnadajjgnniaaa.AE.keysTake
open Go Go.ChangeShapes Go.WideShapes Go.ChangeAt Go.RowKit
open Go.ChangeMaps (open_string shut_string)
set_option linter.unusedVariables false
def Pure : Prop := ∀ (x0 : den ((.list (.prod .str .str)))), Gd ((.list (.prod .str .str))) x0 → ∃ K, F.pleachlaw31_KeysTake K x0 = some true
set_option maxRecDepth 100000 in
theorem lifted (pure : Pure) (os : Os) (started : os.Started) (H : Type) (enc : TypeId × Value → H) :
    ReturnsInHanded {} Try.checked os 6 .any (Rows.keysTakeSpec.pre6 enc Try.prog Try.f6 Rows.keysTakeRow.domain false) (Rows.keysTakeSpec.post enc Try.prog Try.f6 false true false false) := by
  refine returnsInHanded_of_change_sized (C := Try.checked) own started (by kernel_rfl) Try.func6
    (ChangeSpec.witness6 (enc := enc) (C := Try.checked) false ⟨#[], #[.slice none 0 0], []⟩ 8 (by kernel_rfl) (by kernel_rfl) (by kernel_rfl) (by kernel_rfl)) ?_
  intro W base args ds gs before hval0 hW hcnd hsz0 _
  have hsz : (DataW.weightsEach Try.prog (Try.f6.params.toList ++ Rows.keysTakeSpec.plain.varTypes Try.prog) (ds ++ gs)).all (· ≤ reachBytes) = true := hsz0
  have hval : ∀ (j : Nat) t v, Try.f6.params[j]? = some t → args[j]? = some v → Value.okWide Try.prog W .any base t v := hval0
  have hW' := hW
  obtain ⟨p, q, hA0, hV, rfl, hfz, hnd⟩ := hW
  have hA : DataW.TrodAll enc Try.prog W 0 (fun _ => true) true Try.f6.params.toList args.toList ds p := hA0
  rw [Try.params6] at hA hval hsz
  obtain ⟨v0, vs0, d0, ds0, p0, q0, hargs, rfl, rfl, h0, r0⟩ := trodAll_cons hA
  obtain ⟨rfl, rfl, rfl⟩ := trodAll_nil r0
  obtain rfl : args = #[v0] := by cases args; simp_all
  obtain ⟨rfl, rfl⟩ := trodVars_none hV
  have k0 := h0
  have lt0 : ∀ x ∈ p0, x.block < W.heap.size := by obtain ⟨m, hm⟩ := k0; exact DataW.trod_lt m _ _ _ hm
  obtain ⟨a0, len0, cap0, rfl⟩ := okWide_slice Try.underlying53 (hval 0 53 v0 rfl rfl)
  obtain ⟨fuel0, hf0⟩ := h0
  obtain ⟨x0, S0, G0⟩ := fitT_ok (O := OX NoX [] []) (fun b => own_none) 20 53 ((.list (.prod .str .str))) (by kernel_rfl) fuel0 _ _ hf0 (fun m hm => by have hq := weights_each hsz (j := 0) (t := 53) rfl rfl m hm; exact of_decide_eq_true hq)
  obtain ⟨K, hk⟩ := pure x0 G0
  have ha : AV1sR (OX NoX [] []) W [] [.sc (.list ((.prod .str .str)) x0 false)] (#[.slice a0 len0 cap0] : Array Value).toList := .cons (arg_sc S0 rfl) ⟨rfl, by simp⟩
  refine (law_calls (good Try.prog sg (.none (by kernel_rfl)) mix num K) (f := 6) (t := (true : Bool)) (b := true) hk rfl (fun O w ρ vals σ v h hv => bool_of h hv) ha).mono fun e W' ⟨he, hd⟩ => ?_
  have bel : Below W.heap.size W W' := hd
  subst he
  exact ⟨_, rfl, _, _, _, [], _, [], hW', trodAll_mk1 (shut_bool Try.underlying4 _), (trodAll_cons_mk (Below.trod laidOut (by kernel_rfl) (of_decide_eq_true (by kernel_rfl)) k0 bel lt0) trodAll_mk0), rfl, bel.frame _, fun h => by cases h⟩
theorem over (pure : Pure) : Rows.keysTakeRow.holds Try.pinned (OpenSpec.ofChange Rows.keysTakeSpec) :=
  OpenClaim.holds_of_wide 6 Try.f6 rfl rfl rfl rfl rfl rfl rfl ⟨rfl, rfl, rfl, rfl, rfl⟩ rfl rfl rfl rfl rfl (by kernel_rfl) Try.func6 (by kernel_rfl)
    (of_decide_eq_true (by kernel_rfl)) (by unfold Func.isWrapper; first | (rw [if_pos (by decide +kernel)]; kernel_rfl) | (rw [if_neg (by decide +kernel)]; exact ⟨rfl, rfl⟩))
    (fun os started H enc _ => lifted pure os started H enc)
theorem proved (pure : Pure) : Rows.KeysTakeSaid := over pure
end Go.Proofs.Ytmnadajjgnniaaa.AE.keysTake
end
