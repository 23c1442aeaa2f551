/- The evaluator of the program's form, its soundness, the functions of the given program as it evaluates them, and laws on these. Conditions: as each theorem says. -/
import Derived.Test.YthbaafcoidjflaaGreatDoorCLineParsesN4
import Derived.Lib.SplitLaws
import Derived.Test.YthbaafcoidjflaaGreatDoorRows
import Derived.Test.YthbaafcoidjflaaGreatDoorCLineParsesN2
import Derived.WalkKit
import Derived.ProofKit
import Derived.OpenShut
import Derived.ShutString
import Derived.ChangeOld
import Derived.Below
import Derived.SizedLaws
import Derived.LaidMore
import Derived.Stop.Joined
import Derived.Stop.LaidErr
import Derived.Shelf.Vars
import Derived.Lay
import Derived.Test.YthbaafcoidjflaaGreatDoorTie
import Derived.Test.YthbaafcoidjflaaGreatDoorCards
import Derived.SevenTiedAt
section
set_option linter.unusedVariables false
set_option linter.unusedSimpArgs false
set_option maxRecDepth 20000
namespace Go.Proofs.YthbaafcoidjflaaGreatDoor.AE
open Go

theorem cond_or3 {α : Type} (a h : Bool) (x y : α) : (bif a then x else (bif h then x else y)) = bif (a || h) then x else y := by cases a <;> cases h <;> rfl
theorem cond_and3 {α : Type} (a h : Bool) (x y : α) : (bif a then (bif h then x else y) else y) = bif (a && h) then x else y := by cases a <;> cases h <;> rfl
theorem cond_sf (p b : Bool) : (bif p then some b else some false) = some (p && b) := by cases p <;> rfl
theorem cond_st (p b : Bool) : (bif p then some true else some b) = some (p || b) := by cases p <;> rfl
theorem cond_sx (a h x : Bool) : (bif a then some x else some (h && x)) = some ((a || h) && x) := by cases a <;> cases h <;> cases x <;> rfl
theorem cond_nf (p b : Bool) : (bif !p then some false else some b) = some (p && b) := by cases p <;> rfl

/-! ### Forms -/
def formsT : List ByteArray := [(⟨#[110, 79, 116]⟩ : ByteArray), (⟨#[110, 104]⟩ : ByteArray), (⟨#[110, 104]⟩ : ByteArray), (⟨#[110, 111, 104]⟩ : ByteArray), (⟨#[110, 111]⟩ : ByteArray), (⟨#[110, 111]⟩ : ByteArray), (⟨#[104]⟩ : ByteArray), (⟨#[104, 105]⟩ : ByteArray), (⟨#[104, 105]⟩ : ByteArray), (⟨#[104, 105]⟩ : ByteArray), (⟨#[104, 105]⟩ : ByteArray), (⟨#[104, 120]⟩ : ByteArray), (⟨#[110, 111, 104, 116]⟩ : ByteArray), (⟨#[104, 120]⟩ : ByteArray), (⟨#[104]⟩ : ByteArray), (⟨#[]⟩ : ByteArray), (⟨#[]⟩ : ByteArray), (⟨#[]⟩ : ByteArray), (⟨#[]⟩ : ByteArray)]
def opFormsT : List ByteArray := [(⟨#[100]⟩ : ByteArray), (⟨#[100]⟩ : ByteArray), (⟨#[100, 102, 116]⟩ : ByteArray), (⟨#[100]⟩ : ByteArray), (⟨#[100, 107]⟩ : ByteArray), (⟨#[100, 107]⟩ : ByteArray), (⟨#[100, 107]⟩ : ByteArray), (⟨#[100, 107]⟩ : ByteArray), (⟨#[100, 107, 118]⟩ : ByteArray), (⟨#[100, 107]⟩ : ByteArray), (⟨#[100, 107, 118]⟩ : ByteArray), (⟨#[100, 107]⟩ : ByteArray)]
abbrev qS : ByteArray := ⟨#[63]⟩
def formV (k : Int) : ByteArray := if 1 ≤ k ∧ k ≤ 19 then rd .str formsT (k.toNat - 1) else qS
def opFormV (k : Int) : ByteArray := if 1 ≤ k ∧ k ≤ 12 then rd .str opFormsT (k.toNat - 1) else qS
theorem dn_nat {k : Int} (h0 : 1 ≤ k) (h1 : k ≤ 1000) : w64 (k - 1) = ((k.toNat - 1 : Nat) : Int) := by rw [w64_id (by omega) (by omega)]; omega
theorem form_ok (k : Int) : V.pleachref43_form k = some (formV k) := by
  apply V.pleachref43_form.of; unfold F.pleachref43_form.B formV
  by_cases h1 : k < 1
  · rw [if_yes h1, if_neg (by omega)]
  · by_cases h2 : k > 19
    · rw [if_no h1, if_yes (by exact h2), if_neg (by omega)]
    · rw [if_no h1, if_no (by exact h2), if_pos (by omega), dn_nat (by omega) (by omega), nat_cast, guard_in (by simp; omega)]; rfl
theorem opForm_ok (k : Int) : V.pleachref43_opForm k = some (opFormV k) := by
  apply V.pleachref43_opForm.of; unfold F.pleachref43_opForm.B opFormV
  by_cases h1 : k < 1
  · rw [if_yes h1, if_neg (by omega)]
  · by_cases h2 : k > 12
    · rw [if_no h1, if_yes (by exact h2), if_neg (by omega)]
    · rw [if_no h1, if_no (by exact h2), if_pos (by omega), dn_nat (by omega) (by omega), nat_cast, guard_in (by simp; omega)]; rfl

def hasF (s : ByteArray) (x : Int) : Nat → Nat → Bool
  | 0, _ => false
  | d + 1, i => byteAt s (i : Int) == x || hasF s x d (i + 1)
def hasB (s : ByteArray) (x : Int) : Bool := hasF s x s.size 0
theorem rhas_l (s : ByteArray) (x : Int) (hs : s.size ≤ 1000) : ∀ d i : Nat, i + d = s.size → V.pleachref43_has.l1010 s x (i : Int) = some (hasF s x d i)
  | 0, i, h => by
    apply V.pleachref43_has.l1010.of; unfold F.pleachref43_has.l1010.B
    rw [if_out (by omega)]; rfl
  | d + 1, i, h => by
    have hi : i < s.size := by omega
    apply V.pleachref43_has.l1010.of; unfold F.pleachref43_has.l1010.B
    rw [if_in hi, guard_in hi, w64_up hi (by omega), rhas_l s x hs d (i + 1) (by omega), cond_st]; rfl
theorem rhas_ok (s : ByteArray) (x : Int) (hs : s.size ≤ 1000) : V.pleachref43_has s x = some (hasB s x) := by
  apply V.pleachref43_has.of; unfold F.pleachref43_has.B
  exact rhas_l s x hs _ 0 (by omega)
theorem formV_size (k : Int) : (formV k).size ≤ 4 := by
  unfold formV; split
  · rename_i h
    have : ∀ n : Fin 19, (rd .str formsT (n : Nat)).size ≤ 4 := by decide
    exact this ⟨k.toNat - 1, by omega⟩
  · decide
theorem opFormV_size (k : Int) : (opFormV k).size ≤ 3 := by
  unfold opFormV; split
  · rename_i h
    have : ∀ n : Fin 12, (rd .str opFormsT (n : Nat)).size ≤ 3 := by decide
    exact this ⟨k.toNat - 1, by omega⟩
  · decide

def fieldL (c : TCall) (x : Int) : ByteArray := if x == 110 then cName c else if x == 111 || x == 79 then cOld c else if x == 104 then cHash c else if x == 120 then cOther c else if x == 105 then cId c else cNote c
theorem field_ok (c : TCall) (x : Int) : V.pleachref43_field c x = some (fieldL c x) := by
  apply V.pleachref43_field.of; unfold F.pleachref43_field.B fieldL
  cases h1 : (x == 110) <;> cases h2 : (x == 111) <;> cases h3 : (x == 79) <;> cases h4 : (x == 104) <;> cases h5 : (x == 120) <;> cases h6 : (x == 105) <;> rfl
def mayL (s : ByteArray) (x : Int) : Bool := if x == 110 || x == 105 then nameB s else if x == 111 || x == 104 || x == 120 then comB s else if x == 79 then comB s || decide (s = eS) else decide (s = eS) || (nameB s && !decide (s = noS))
theorem rmay_ok {s : ByteArray} (hs : s.size ≤ 140737488351232) (x : Int) : V.pleachref43_may s x = some (mayL s x) := by
  apply V.pleachref43_may.of; unfold F.pleachref43_may.B mayL
  have e : V.pleachref40_Number s = some (((progN s).getD 0), comB s) := by
    rw [rNumber_ok hs, N_same hs]; unfold comB; cases progN s <;> rfl
  rw [e]
  simp only [Option.bind_some, refIs_ok s hs, strEq_dec, cond_sf, cond_st]
  cases h1 : (x == 110) <;> cases h2 : (x == 111) <;> cases h3 : (x == 79) <;> cases h4 : (x == 104) <;> cases h5 : (x == 120) <;> cases h6 : (x == 105) <;> rfl
def bareB (c : TCall) (f : ByteArray) : Bool :=
  (decide (cName c = eS) || hasB f 110) && ((decide (cOld c = eS) || (hasB f 111 || hasB f 79)) && ((decide (cHash c = eS) || hasB f 104) && ((decide (cOther c = eS) || hasB f 120) && ((decide (cId c = eS) || hasB f 105) && ((decide (cNote c = eS) || hasB f 116) && (((cOps c).length : Int) == 0 || c.1 == 1))))))
theorem bare_end (c : TCall) (f : ByteArray) (hf : f.size ≤ 1000) (x : Bool) : V.pleachref43_bare.j11 c f x = some ((decide (cName c = eS) || hasB f 110) && ((decide (cOld c = eS) || x) && ((decide (cHash c = eS) || hasB f 104) && ((decide (cOther c = eS) || hasB f 120) && ((decide (cId c = eS) || hasB f 105) && ((decide (cNote c = eS) || hasB f 116) && (((cOps c).length : Int) == 0 || c.1 == 1))))))) := by
  apply V.pleachref43_bare.j11.of; unfold F.pleachref43_bare.j11.B
  simp only [rhas_ok _ _ hf, Option.bind_some, strEq_dec, cond_st, cond_sf, cond_sx, cond_or3]
theorem rbare_ok (c : TCall) (f : ByteArray) (hf : f.size ≤ 1000) : V.pleachref43_bare c f = some (bareB c f) := by
  apply V.pleachref43_bare.of; unfold F.pleachref43_bare.B bareB
  simp only [rhas_ok _ _ hf, Option.bind_some, bare_end c f hf]
  cases hasB f 111 <;> rfl
def opBareL (o : TOp) (f : ByteArray) : Bool := ((decide (o.2.2.1 = eS) && decide (o.2.2.2.1 = eS)) || o.1 == 3) && ((decide (oKey o = eS) || hasB f 107) && (decide (oVal o = (0, 0, eS)) || hasB f 118))
theorem val_dec (a b : Int) (s : ByteArray) : (a == 0 && (b == 0 && (decide (s = eS) && true))) = decide ((a, b, s) = ((0 : Int), (0 : Int), eS)) := by
  rw [Bool.eq_iff_iff]; simp
theorem opBare_ok (o : TOp) : V.pleachref43_opBare o = some (opBareL o (opFormV o.1)) := by
  apply V.pleachref43_opBare.of; unfold F.pleachref43_opBare.B opBareL
  have hf : (opFormV o.1).size ≤ 1000 := by have := opFormV_size o.1; omega
  simp only [opForm_ok, rhas_ok _ _ hf, Option.bind_some, strEq_dec, cond_st, cond_sf, cond_sx, cond_or3, val_dec]
  cases decide (o.2.2.1 = eS) <;> cases decide (o.2.2.2.1 = eS) <;> cases (o.1 == 3) <;> rfl
theorem opBare_same (o : TOp) (h : 1 ≤ o.1) (h' : o.1 ≤ 12) : opBareL o (opFormV o.1) = opBareB o := by
  unfold opBareL opBareB
  have e : ∀ n : Fin 12, hasB (opFormV ((n : Nat) + 1 : Nat)) 107 = (six (((n : Nat) + 1 : Nat) : Int) || (((n : Nat) + 1 : Nat) : Int) == 9 || (((n : Nat) + 1 : Nat) : Int) == 11) ∧ hasB (opFormV (((n : Nat) + 1 : Nat) : Int)) 118 = ((((n : Nat) + 1 : Nat) : Int) == 9 || (((n : Nat) + 1 : Nat) : Int) == 11) := by decide
  obtain ⟨e1, e2⟩ := e ⟨o.1.toNat - 1, by omega⟩
  have he : (((o.1.toNat - 1 + 1 : Nat)) : Int) = o.1 := by omega
  simp only [he] at e1 e2
  rw [e1, e2]

/-! ### Is -/
def isL (c : TCall) (f : ByteArray) : Nat → Nat → Bool
  | 0, _ => true
  | d + 1, i => mayL (fieldL c (byteAt f (i : Int))) (byteAt f (i : Int)) && isL c f d (i + 1)
def opOK (o : TOp) : Bool := rightB o && opBareB o
def isV (c : TCall) : Bool := !decide (formV c.1 = qS) && (bareB c (formV c.1) && (decide ((cOps c).length ≤ 64) && (isL c (formV c.1) (formV c.1).size 0 && (cOps c).all opOK)))
theorem fieldL_le {c : TCall} (hc : okC c) (x : Int) : (fieldL c x).size ≤ 140737488351232 := by
  unfold fieldL
  split
  · exact hc.n
  split
  · exact hc.o
  split
  · exact hc.h
  split
  · exact hc.x
  split
  · exact hc.i
  · exact hc.t
theorem right_opOK (o : TOp) : (rightB o && opBareL o (opFormV o.1)) = opOK o := by
  unfold opOK
  cases h : rightB o with
  | false => rfl
  | true => rw [opBare_same o (right_kind h).1 (right_kind h).2.1]
theorem rIs_l1 (c : TCall) (hc : okC c) : ∀ d i : Nat, i + d = (cOps c).length → V.pleachref43_Is.l1111010 c (i : Int) = some (((cOps c).drop i).all opOK)
  | 0, i, h => by
    apply V.pleachref43_Is.l1111010.of; unfold F.pleachref43_Is.l1111010.B
    rw [if_out (show (cOps c).length ≤ i by omega), List.drop_eq_nil_of_le (by omega)]; rfl
  | d + 1, i, h => by
    have hi : i < (cOps c).length := by omega
    apply V.pleachref43_Is.l1111010.of; unfold F.pleachref43_Is.l1111010.B
    rw [if_in hi, guard_in hi, w64_up hi hc.l, rIs_l1 c hc d (i + 1) (by omega), nat_cast, drop_rd (e := sOp) hi, List.all_cons]
    have ho : okOp (rd sOp (cOps c) i) := hc.ops _ (rd_mem (e := sOp) hi)
    generalize rd sOp (cOps c) i = o at ho ⊢
    have e1 : V.pleachref26_Right (o.1, o.2.1, o.2.2.1, o.2.2.2.1, o.2.2.2.2.1, o.2.2.2.2.2.1, o.2.2.2.2.2.2.1, o.2.2.2.2.2.2.2) = some (rightB o) := refRight_ok o ho
    have e2 : V.pleachref43_opBare (o.1, o.2.1, o.2.2.1, o.2.2.2.1, o.2.2.2.2.1, o.2.2.2.2.2.1, o.2.2.2.2.2.2.1, o.2.2.2.2.2.2.2) = some (opBareL o (opFormV o.1)) := opBare_ok o
    rw [e1, e2]
    simp only [Option.bind_some, cond_nf]
    rw [← right_opOK, Bool.and_assoc]
theorem rIs_l0 (c : TCall) (hc : okC c) (f : ByteArray) (hf : f.size ≤ 1000) : ∀ d i : Nat, i + d = f.size → V.pleachref43_Is.l111010 c f (i : Int) = some (isL c f d i && (cOps c).all opOK)
  | 0, i, h => by
    apply V.pleachref43_Is.l111010.of; unfold F.pleachref43_Is.l111010.B
    rw [if_out (by omega)]
    have := rIs_l1 c hc (cOps c).length 0 (by omega)
    exact this
  | d + 1, i, h => by
    have hi : i < f.size := by omega
    apply V.pleachref43_Is.l111010.of; unfold F.pleachref43_Is.l111010.B
    rw [if_in hi, guard_in hi, guard_in hi, w64_up hi (by omega), rIs_l0 c hc f hf d (i + 1) (by omega)]
    rw [show V.pleachref43_field (c.1, c.2.1, c.2.2.1, c.2.2.2.1, c.2.2.2.2.1, c.2.2.2.2.2.1, c.2.2.2.2.2.2.1, c.2.2.2.2.2.2.2) (byteAt f (i : Int)) = some (fieldL c (byteAt f (i : Int))) from field_ok c _, Option.bind_some, rmay_ok (fieldL_le hc _), Option.bind_some, cond_nf]
    rw [show isL c f (d + 1) i = (mayL (fieldL c (byteAt f (i : Int))) (byteAt f (i : Int)) && isL c f d (i + 1)) from rfl, Bool.and_assoc]
theorem rIs_ok (c : TCall) (hc : okC c) : V.pleachref43_Is c = some (isV c) := by
  have hf : (formV c.1).size ≤ 1000 := by have := formV_size c.1; omega
  apply V.pleachref43_Is.of; unfold F.pleachref43_Is.B isV
  have e2 : V.pleachref43_bare (c.1, c.2.1, c.2.2.1, c.2.2.2.1, c.2.2.2.2.1, c.2.2.2.2.2.1, c.2.2.2.2.2.2.1, c.2.2.2.2.2.2.2) (formV c.1) = some (bareB c (formV c.1)) := rbare_ok c _ hf
  have e3 := rIs_l0 c hc (formV c.1) hf (formV c.1).size 0 (by omega)
  rw [form_ok, Option.bind_some, e2, strEq_dec]
  simp only [Option.bind_some]
  rw [show V.pleachref43_Is.l111010 c (formV c.1) 0 = _ from e3]
  have e4 : decide (((cOps c).length : Int) > 64) = !decide ((cOps c).length ≤ 64) := by rw [Bool.eq_iff_iff]; simp; omega
  rw [e4]
  cases decide (formV c.1 = qS) <;> cases bareB c (formV c.1) <;> cases decide ((cOps c).length ≤ 64) <;> rfl
end Go.Proofs.YthbaafcoidjflaaGreatDoor.AE
end
section
set_option linter.unusedVariables false
set_option linter.unusedSimpArgs false
set_option maxRecDepth 20000
namespace Go.Proofs.YthbaafcoidjflaaGreatDoor.AE
open Go

theorem op_eq (x y : TOp) : ((x.1 == y.1) && ((strEq x.2.1 y.2.1) && ((strEq x.2.2.1 y.2.2.1) && ((strEq x.2.2.2.1 y.2.2.2.1) && ((strEq x.2.2.2.2.1 y.2.2.2.2.1) && (((x.2.2.2.2.2.1 == y.2.2.2.2.2.1) && ((x.2.2.2.2.2.2.1 == y.2.2.2.2.2.2.1) && ((strEq x.2.2.2.2.2.2.2 y.2.2.2.2.2.2.2) && true))) && true)))))) = decide (x = y) := by
  obtain ⟨a, b, c, d, e, f, g, h⟩ := x
  obtain ⟨a', b', c', d', e', f', g', h'⟩ := y
  rw [Bool.eq_iff_iff]
  simp [strEq_dec, and_assoc]
theorem EqOps_l (a b : List TOp) (hl : a.length = b.length) (ha : a.length ≤ 140737488351232) : ∀ d i : Nat, i + d = a.length → V.slices_Equal_apiOpapiOp.l11010 a b (i : Int) = some (decide (a.drop i = b.drop i))
  | 0, i, h => by
    refine V.slices_Equal_apiOpapiOp.l11010.of _ _ _ ?_
    unfold F.slices_Equal_apiOpapiOp.l11010.B
    rw [if_out (by omega), List.drop_eq_nil_of_le (by omega), List.drop_eq_nil_of_le (by omega)]
    simp
  | d + 1, i, h => by
    refine V.slices_Equal_apiOpapiOp.l11010.of _ _ _ ?_
    unfold F.slices_Equal_apiOpapiOp.l11010.B
    have h1 : i < a.length := by omega
    have h2 : i < b.length := by omega
    rw [if_in h1, guard_in h1, guard_in h2, nat_cast, w64_up h1 ha, EqOps_l a b hl ha d (i + 1) (by omega), op_eq, rd_get (e := sOp) h1, rd_get (e := sOp) h2, drop_eq h1 h2]
    by_cases hq : a[i] = b[i] <;> simp [hq]
theorem EqOps_ok (a b : List TOp) (ha : a.length ≤ 140737488351232) : V.slices_Equal_apiOpapiOp a b = some (decide (a = b)) := by
  refine V.slices_Equal_apiOpapiOp.of _ _ ?_
  unfold F.slices_Equal_apiOpapiOp.B
  by_cases hl : a.length = b.length
  · have := EqOps_l a b hl ha a.length 0 (by omega)
    rw [show (0 : Int) = ((0 : Nat) : Int) from rfl, this, hl]
    simp
  · rw [show ((a.length : Int) != (b.length : Int)) = true by simp; omega, cond_true]
    simp only [Option.some.injEq]
    symm
    simp only [decide_eq_false_iff_not]
    intro h; rw [h] at hl; exact hl rfl
def headB (a b : TCall) : Bool := (a.1 == b.1) && (decide (cName a = cName b) && (decide (cOld a = cOld b) && (decide (cHash a = cHash b) && (decide (cOther a = cOther b) && (decide (cNote a = cNote b) && decide (cId a = cId b))))))
theorem same_ok (a b : TCall) (ha : (cOps a).length ≤ 140737488351232) : V.line_same a b = some (headB a b && decide (cOps a = cOps b)) := by
  apply V.line_same.of; unfold F.line_same.B headB
  rw [show V.slices_Equal_apiOpapiOp a.2.2.2.2.2.1 b.2.2.2.2.2.1 = some (decide (cOps a = cOps b)) from EqOps_ok _ _ ha]
  simp only [Option.bind_some, strEq_dec, cond_sf, Bool.and_assoc]
theorem rSame_l (a b : TCall) (hl : (cOps a).length = (cOps b).length) (ha : (cOps a).length ≤ 140737488351232) : ∀ d i : Nat, i + d = (cOps a).length → V.pleachref43_Same.l11010 a b (i : Int) = some (decide ((cOps a).drop i = (cOps b).drop i))
  | 0, i, h => by
    refine V.pleachref43_Same.l11010.of _ _ _ ?_
    unfold F.pleachref43_Same.l11010.B
    rw [if_out (show (cOps a).length ≤ i by omega), List.drop_eq_nil_of_le (by omega), List.drop_eq_nil_of_le (by omega)]
    simp
  | d + 1, i, h => by
    refine V.pleachref43_Same.l11010.of _ _ _ ?_
    unfold F.pleachref43_Same.l11010.B
    have h1 : i < (cOps a).length := by omega
    have h2 : i < (cOps b).length := by omega
    rw [if_in h1, guard_in h1, guard_in h2, nat_cast, w64_up h1 ha, rSame_l a b hl ha d (i + 1) (by omega), op_eq, rd_get (e := sOp) h1, rd_get (e := sOp) h2, drop_eq h1 h2]
    by_cases hq : (cOps a)[i] = (cOps b)[i] <;> simp [hq]
theorem rSame_ok (a b : TCall) (ha : (cOps a).length ≤ 140737488351232) : V.pleachref43_Same a b = some (headB a b && decide (cOps a = cOps b)) := by
  refine V.pleachref43_Same.of _ _ ?_
  unfold F.pleachref43_Same.B headB
  simp only [strEq_dec]
  have e : (bif ((((cOps a).length : Nat) : Int) != (((cOps b).length : Nat) : Int)) then some false else V.pleachref43_Same.l11010 a b 0) = some (decide (cOps a = cOps b)) := by
    by_cases hl : (cOps a).length = (cOps b).length
    · have := rSame_l a b hl ha (cOps a).length 0 (by omega)
      rw [show (0 : Int) = ((0 : Nat) : Int) from rfl, this, hl]
      simp
    · rw [show (((cOps a).length : Int) != ((cOps b).length : Int)) = true by simp; omega, cond_true]
      simp only [Option.some.injEq]
      symm
      simp only [decide_eq_false_iff_not]
      intro h; rw [h] at hl; exact hl rfl
  rw [e]
  have n : (a.1 != b.1) = !(a.1 == b.1) := rfl
  rw [n]
  simp only [cond_nf, Bool.and_assoc]
theorem call_eq (a b : TCall) : (headB a b && decide (cOps a = cOps b)) = true ↔ a = b := by
  constructor
  · intro h
    obtain ⟨k, n, o, h, x, l, t, i⟩ := a
    obtain ⟨k', n', o', h', x', l', t', i'⟩ := b
    simp [headB] at h
    obtain ⟨⟨rfl, rfl, rfl, rfl, rfl, rfl, rfl⟩, rfl⟩ := h
    rfl
  · rintro rfl
    simp [headB]

/-! ### The call of a call's fields -/
def ownV (c : TCall) : TCall := (callV c.1 (fieldsV c)).1
theorem own_len (c : TCall) : (fieldsV c).length = (fieldsV (bareK c.1)).length := by
  unfold fieldsV fields1 fields2 fields3 fields4 fields5
  simp only [show (bareK c.1).1 = c.1 from rfl]
  (repeat' split) <;> rfl
theorem call5_ok (k : Int) (f : List ByteArray) (b : Bool) : (call5 k f b).2 = true ∧ cOps (call5 k f b).1 = [] ∧ (call5 k f b).1.1 = k := by unfold call5; (repeat' split) <;> exact ⟨rfl, rfl, rfl⟩
theorem call4_ok (k : Int) (f : List ByteArray) (b : Bool) : (call4 k f b).2 = true ∧ cOps (call4 k f b).1 = [] ∧ (call4 k f b).1.1 = k := by
  unfold call4; split
  · exact ⟨rfl, rfl, rfl⟩
  · exact call5_ok _ _ _
theorem call3_ok (k : Int) (f : List ByteArray) (b : Bool) : (call3 k f b).2 = true ∧ cOps (call3 k f b).1 = [] ∧ (call3 k f b).1.1 = k := by
  unfold call3; split
  · exact ⟨rfl, rfl, rfl⟩
  · exact call4_ok _ _ _
theorem call2_ok (k : Int) (f : List ByteArray) (b : Bool) : (call2 k f b).2 = true ∧ cOps (call2 k f b).1 = [] ∧ (call2 k f b).1.1 = k := by
  unfold call2; split
  · exact ⟨rfl, rfl, rfl⟩
  · exact call3_ok _ _ _
theorem call1_ok (k : Int) (f : List ByteArray) (b : Bool) : (call1 k f b).2 = true ∧ cOps (call1 k f b).1 = [] ∧ (call1 k f b).1.1 = k := by
  unfold call1; split
  · exact ⟨rfl, rfl, rfl⟩
  · split
    · exact ⟨rfl, rfl, rfl⟩
    · exact call2_ok _ _ _
theorem callV_ok (k : Int) (f : List ByteArray) (h : f.length = (fieldsV (bareK k)).length) : (callV k f).2 = true ∧ cOps (callV k f).1 = [] ∧ (callV k f).1.1 = k := by
  unfold callV
  rw [if_neg (fun g => g h)]
  split
  · exact ⟨rfl, rfl, rfl⟩
  · exact call1_ok _ _ _
theorem callV_len (k : Int) (f : List ByteArray) : (cOps (callV k f).1) = [] := by
  by_cases h : f.length = (fieldsV (bareK k)).length
  · exact (callV_ok k f h).2.1
  · unfold callV; rw [if_pos h]
theorem own_eq (c : TCall) : callV c.1 (fieldsV c) = (ownV c, true) := by
  have := callV_ok c.1 (fieldsV c) (own_len c)
  exact Prod.ext rfl this.1
theorem own_ops (c : TCall) : cOps (ownV c) = [] := callV_len _ _
theorem own_kind (c : TCall) : (ownV c).1 = c.1 := (callV_ok c.1 (fieldsV c) (own_len c)).2.2

/-! ### Check -/
def lastB (c : TCall) : Bool := headB (ownV c) c && (c.1 == 1 || decide (cOps c = []))
theorem Check_end (c : TCall) (hc : okC c) : (bif (c.1 == 1) then ((V.line_same ((ownV c).1, (ownV c).2.1, (ownV c).2.2.1, (ownV c).2.2.2.1, (ownV c).2.2.2.2.1, cOps c, (ownV c).2.2.2.2.2.2.1, (ownV c).2.2.2.2.2.2.2) c).bind fun t => (bif (!t) then (some (2 : Int)) else (some 0))) else ((V.line_same ((ownV c).1, (ownV c).2.1, (ownV c).2.2.1, (ownV c).2.2.2.1, (ownV c).2.2.2.2.1, (ownV c).2.2.2.2.2.1, (ownV c).2.2.2.2.2.2.1, (ownV c).2.2.2.2.2.2.2) c).bind fun t => (bif (!t) then (some 2) else (some 0)))) = some (if lastB c then 0 else 2) := by
  rw [same_ok _ _ (by exact hc.l), same_ok _ _ (show (cOps (ownV c)).length ≤ _ by rw [own_ops]; exact Nat.zero_le _)]
  unfold lastB
  show (bif c.1 == 1 then (bif !(headB (ownV c) c && decide (cOps c = cOps c)) then some (2 : Int) else some 0) else (bif !(headB (ownV c) c && decide (cOps (ownV c) = cOps c)) then some 2 else some 0)) = _
  rw [own_ops, decide_eq_true (rfl : cOps c = cOps c), show decide ([] = cOps c) = decide (cOps c = []) by rw [Bool.eq_iff_iff]; simp [eq_comm]]
  cases headB (ownV c) c <;> cases (c.1 == 1) <;> cases decide (cOps c = []) <;> rfl
/-- The words of an op that may be are short. -/
theorem right_short (o : TOp) (hb : in64 (oVal o).2.1) (hr : rightB o = true) (P : ByteArray → Prop) (h1 : ∀ s, nameB s = true → P s) (h2 : valueB (oVal o) = true → P (showB (oVal o))) : ∀ s ∈ opFieldsV o, P s := by
  obtain ⟨k1, k2, hn⟩ := right_kind hr
  unfold opFieldsV
  unfold rightB at hr
  simp only [Bool.and_eq_true, Bool.or_eq_true, beq_iff_eq] at hr
  obtain ⟨_, hr⟩ := hr
  have hn1 := h1 _ hn
  split
  · rename_i h3
    have h3 : o.1 = 3 := by simpa using h3
    have g : nameB o.2.2.1 = true ∧ nameB o.2.2.2.1 = true := by
      rcases hr with ((((h | h) | h) | ⟨_, h⟩) | ⟨h, _⟩) | ⟨h, _⟩ <;> first | exact h | omega
    intro s h
    simp only [List.mem_cons, List.not_mem_nil, or_false] at h
    rcases h with rfl | rfl | rfl
    · exact hn1
    · exact h1 _ g.1
    · exact h1 _ g.2
  · rename_i h3
    split
    · rename_i h6
      have g : nameB (oKey o) = true := by
        unfold six at h6
        simp only [Bool.or_eq_true, beq_iff_eq] at h6
        rcases hr with ((((h | h) | h) | ⟨h, _⟩) | ⟨_, h⟩) | ⟨h, _⟩ <;> first | exact h | omega
      intro s h
      simp only [List.mem_cons, List.not_mem_nil, or_false] at h
      rcases h with rfl | rfl
      · exact hn1
      · exact h1 _ g
    · split
      · rename_i h9
        have g : nameB (oKey o) = true ∧ valueB (oVal o) = true := by
          simp only [Bool.or_eq_true, beq_iff_eq] at h9
          rcases hr with ((((h | h) | h) | ⟨h, _⟩) | ⟨h, _⟩) | ⟨_, h⟩ <;> first | exact h | omega
        intro s h
        simp only [List.mem_cons, List.not_mem_nil, or_false] at h
        rcases h with rfl | rfl | rfl
        · exact hn1
        · exact h1 _ g.1
        · exact h2 g.2
      · intro s h
        simp only [List.mem_cons, List.not_mem_nil, or_false] at h
        subst h; exact hn1
theorem name_short {s : ByteArray} (h : nameB s = true) : s.size ≤ 12 := by unfold nameB at h; simp at h; omega
theorem Check_l (c : TCall) (hc : okC c) : ∀ d i : Nat, i + d = (cOps c).length → V.line_Check.l111010 c true (i : Int) (ownV c).1 (ownV c).2.1 (ownV c).2.2.1 (ownV c).2.2.2.1 (ownV c).2.2.2.2.1 (ownV c).2.2.2.2.2.2.1 (ownV c).2.2.2.2.2.2.2 (ownV c).2.2.2.2.2.1 = some (if ((cOps c).drop i).all opOK && lastB c then 0 else 2)
  | 0, i, h => by
    apply V.line_Check.l111010.of; unfold F.line_Check.l111010.B
    rw [if_out (show (cOps c).length ≤ i by omega), List.drop_eq_nil_of_le (by omega)]
    exact Check_end c hc
  | d + 1, i, h => by
    have hi : i < (cOps c).length := by omega
    apply V.line_Check.l111010.of; unfold F.line_Check.l111010.B
    rw [if_in hi, guard_in hi, w64_up hi hc.l, Check_l c hc d (i + 1) (by omega), nat_cast, drop_rd (e := sOp) hi, List.all_cons]
    have ho : okOp (rd sOp (cOps c) i) := hc.ops _ (rd_mem (e := sOp) hi)
    generalize rd sOp (cOps c) i = o at ho ⊢
    have e1 : V.graph_Right (o.1, o.2.1, o.2.2.1, o.2.2.2.1, o.2.2.2.2.1, o.2.2.2.2.2.1, o.2.2.2.2.2.2.1, o.2.2.2.2.2.2.2) = some (if rightB o then 0 else 2) := Right_ok o ho
    rw [e1]
    simp only [Option.bind_some]
    cases hr : rightB o with
    | false => simp [opOK, hr]
    | true =>
      have hb : in64 (oVal o).2.1 := ho.vn
      have hsz : ∀ s ∈ opFieldsV o, s.size ≤ 1000000 := right_short o hb hr _ (fun s h => by have := name_short h; omega) (fun _ => by have := showB_le (oVal o) hb; omega)
      have e2 : V.line_bare (o.1, o.2.1, o.2.2.1, o.2.2.2.1, o.2.2.2.2.1, o.2.2.2.2.2.1, o.2.2.2.2.2.2.1, o.2.2.2.2.2.2.2) = some (bareV o) := bare_ok o hb hsz
      rw [e2]
      simp only [Option.bind_some, op_eq]
      have e3 : decide (bareV o = o) = opBareB o := by rw [Bool.eq_iff_iff, decide_eq_true_eq]; exact bareV_iff o hb hr
      rw [e3]
      unfold opOK
      rw [hr]
      cases opBareB o <;> rfl
def progV (c : TCall) : Bool := !decide (wordV c.1 = eS) && (mayV c && ((decide (cNote c = eS) || nameB (cNote c)) && (!decide (cNote c = noS) && (decide ((cOps c).length ≤ 64) && ((cOps c).all opOK && lastB c)))))
theorem Check_prog (c : TCall) (hc : okC c) : V.line_Check c = some (if progV c then 0 else 2) := by
  apply V.line_Check.of; unfold F.line_Check.B
  have e1 : V.line_mayName (c.1, c.2.1, c.2.2.1, c.2.2.2.1, c.2.2.2.2.1, c.2.2.2.2.2.1, c.2.2.2.2.2.2.1, c.2.2.2.2.2.2.2) = some (mayV c) := may_ok c hc
  have e2 : V.line_fields (c.1, c.2.1, c.2.2.1, c.2.2.2.1, c.2.2.2.2.1, c.2.2.2.2.2.1, c.2.2.2.2.2.2.1, c.2.2.2.2.2.2.2) = some (fieldsV c) := fields_ok c
  have hf : (fieldsV c).length ≤ 1000000 := by
    have : (fieldsV c).length ≤ 4 := by
      unfold fieldsV fields1 fields2 fields3 fields4 fields5
      (repeat' split) <;> simp
    omega
  have e3 := Check_l c hc (cOps c).length 0 (by omega)
  rw [words_ok, Option.bind_some, strEq_dec, e1, name_Check_ok _ hc.t, e2]
  simp only [Option.bind_some, strEq_dec, call_ok _ _ hf, own_eq, meet_self]
  rw [show V.line_Check.l111010 c true 0 (ownV c).1 (ownV c).2.1 (ownV c).2.2.1 (ownV c).2.2.2.1 (ownV c).2.2.2.2.1 (ownV c).2.2.2.2.2.2.1 (ownV c).2.2.2.2.2.2.2 (ownV c).2.2.2.2.2.1 = _ from e3]
  unfold progV
  have e4 : decide ((c.2.2.2.2.2.1.length : Int) > 64) = !decide ((cOps c).length ≤ 64) := by
    show decide (((cOps c).length : Int) > 64) = _
    rw [Bool.eq_iff_iff]; simp; omega
  rw [e4]
  show (bif decide (wordV c.1 = eS) then _ else _) = _
  cases decide (wordV c.1 = eS) with
  | true => rfl
  | false =>
  cases mayV c with
  | false => rfl
  | true =>
  show (bif !decide (cNote c = eS) then _ else bif decide (cNote c = noS) then _ else _) = _
  cases nameB (cNote c) <;> cases decide (cNote c = eS) <;> cases decide (cNote c = noS) <;> cases decide ((cOps c).length ≤ 64) <;> rfl
end Go.Proofs.YthbaafcoidjflaaGreatDoor.AE
end
section
set_option linter.unusedVariables false
set_option linter.unusedSimpArgs false
set_option maxRecDepth 20000
namespace Go.Proofs.YthbaafcoidjflaaGreatDoor.AE
open Go

theorem free_opt (s : ByteArray) : decide (freeV (optV s) = s) = !decide (s = noS) := by
  unfold freeV optV
  by_cases h : s = eS
  · subst h; decide
  · rw [if_neg h]
    by_cases g : s = noS
    · subst g; decide
    · rw [if_neg g]; simp [g]
theorem com_no : comB noS = false := by
  cases h : progN noS with
  | none => unfold comB; rw [h]; rfl
  | some n =>
    have := ((progN_iff noS n).1 h).2
    have e : byteAt (nameC n) 0 = 35 := one_byte 35 _
    rw [this] at e
    exact absurd e (by decide)
theorem com_not {s : ByteArray} (h : comB s = true) : decide (s = noS) = false := by
  rw [decide_eq_false_iff_not]; rintro rfl; rw [com_no] at h; cases h
theorem com_eS : comB eS = false := rfl
theorem no_eS : decide (eS = noS) = false := by decide
theorem beq_dec (k m : Int) : (k == m) = decide (k = m) := rfl
theorem ops_dec (l : List TOp) : ((l.length : Int) == 0) = decide (l = []) := by
  rw [Bool.eq_iff_iff]; simp
theorem de (x : ByteArray) : decide (eS = x) = decide (x = eS) := by rw [Bool.eq_iff_iff]; simp [eq_comm]
theorem fields_low (c : TCall) (h : c.1 < 1 ∨ 19 < c.1) : progV c = isV c := by
  have e1 : wordV c.1 = eS := if_neg (by omega)
  have e2 : formV c.1 = qS := if_neg (by omega)
  unfold progV isV
  rw [e1, e2]; rfl
theorem isL_0 (c : TCall) (f : ByteArray) (i : Nat) : isL c f 0 i = true := rfl
theorem isL_s (c : TCall) (f : ByteArray) (d i : Nat) : isL c f (d + 1) i = (mayL (fieldL c (byteAt f (i : Int))) (byteAt f (i : Int)) && isL c f d (i + 1)) := rfl
theorem m110 (s : ByteArray) : mayL s 110 = nameB s := rfl
theorem m105 (s : ByteArray) : mayL s 105 = nameB s := rfl
theorem m111 (s : ByteArray) : mayL s 111 = comB s := rfl
theorem m104 (s : ByteArray) : mayL s 104 = comB s := rfl
theorem m120 (s : ByteArray) : mayL s 120 = comB s := rfl
theorem m79 (s : ByteArray) : mayL s 79 = (comB s || decide (s = eS)) := rfl
theorem m116 (s : ByteArray) : mayL s 116 = (decide (s = eS) || (nameB s && !decide (s = noS))) := rfl
/-- What is common to both: the op's row. -/
theorem note_free (t : ByteArray) : ((decide (t = eS) || nameB t) && !decide (t = noS)) = (decide (t = eS) || (nameB t && !decide (t = noS))) := by
  by_cases h : t = eS
  · subst h; decide
  · simp [h]
theorem old_free (o : ByteArray) : ((comB o || decide (o = eS)) && !decide (o = noS)) = (comB o || decide (o = eS)) := by
  by_cases h : o = noS
  · subst h; rw [com_no]; decide
  · simp [h]
theorem note_none (t : ByteArray) : ((decide (t = eS) || nameB t) && (!decide (t = noS) && decide (t = eS))) = decide (t = eS) := by
  by_cases h : t = eS
  · subst h; decide
  · simp [h]
theorem pk_1 (a o x y : ByteArray) (l : List TOp) (t i : ByteArray) : progV (1, a, o, x, y, l, t, i) = isV (1, a, o, x, y, l, t, i) := by
  unfold progV isV
  have e1 : decide (wordV 1 = eS) = false := by decide
  have e2 : formV 1 = (⟨#[110, 79, 116]⟩ : ByteArray) := rfl
  have e3 : mayV ((1, a, o, x, y, l, t, i) : TCall) = (nameB a && (decide (o = eS) || comB o)) := rfl
  have e4 : ownV ((1, a, o, x, y, l, t, i) : TCall) = ((1, a, freeV (optV o), eS, eS, [], freeV (optV t), eS) : TCall) := rfl
  have e5 : isL ((1, a, o, x, y, l, t, i) : TCall) (⟨#[110, 79, 116]⟩ : ByteArray) 3 0 = (mayL (a) 110 && (mayL (o) 79 && (mayL (t) 116 && true))) := rfl
  have e6 : decide (((⟨#[110, 79, 116]⟩ : ByteArray) : ByteArray) = qS) = false := by decide
  have e7 : ((⟨#[110, 79, 116]⟩ : ByteArray) : ByteArray).size = 3 := rfl
  have e8 : bareB ((1, a, o, x, y, l, t, i) : TCall) (⟨#[110, 79, 116]⟩ : ByteArray) = ((decide (a = eS) || true) && ((decide (o = eS) || (false || true)) && ((decide (x = eS) || false) && ((decide (y = eS) || false) && ((decide (i = eS) || false) && ((decide (t = eS) || true) && ((l.length : Int) == 0 || (1 : Int) == 1))))))) := rfl
  simp only [e1, e2, e3, e6, e7, e5, e8]
  unfold lastB headB
  rw [e4]
  dsimp only [cName, cOld, cHash, cOther, cNote, cId, cOps]
  simp only [m110, m105, m111, m104, m120, m79, m116, ops_dec, free_opt, de, Bool.not_false, Bool.true_and, Bool.and_true, Bool.or_true, Bool.or_false, Bool.true_or, Bool.false_or, Bool.and_assoc, decide_true, beq_self_eq_true]
  have g1 : eS ≠ noS := by decide
  have g2 : comB noS = false := com_no
  rw [Bool.eq_iff_iff]
  simp only [Bool.and_eq_true, Bool.or_eq_true, decide_eq_true_eq, Bool.not_eq_true', decide_eq_false_iff_not, beq_iff_eq]
  generalize (l.all opOK = true) = P1
  generalize eS = e at *
  generalize noS = n at *
  grind
theorem pk_2 (a o x y : ByteArray) (l : List TOp) (t i : ByteArray) : progV (2, a, o, x, y, l, t, i) = isV (2, a, o, x, y, l, t, i) := by
  unfold progV isV
  have e1 : decide (wordV 2 = eS) = false := by decide
  have e2 : formV 2 = (⟨#[110, 104]⟩ : ByteArray) := rfl
  have e3 : mayV ((2, a, o, x, y, l, t, i) : TCall) = (nameB a && comB x) := rfl
  have e4 : ownV ((2, a, o, x, y, l, t, i) : TCall) = ((2, a, eS, x, eS, [], eS, eS) : TCall) := rfl
  have e5 : isL ((2, a, o, x, y, l, t, i) : TCall) (⟨#[110, 104]⟩ : ByteArray) 2 0 = (mayL (a) 110 && (mayL (x) 104 && true)) := rfl
  have e6 : decide (((⟨#[110, 104]⟩ : ByteArray) : ByteArray) = qS) = false := by decide
  have e7 : ((⟨#[110, 104]⟩ : ByteArray) : ByteArray).size = 2 := rfl
  have e8 : bareB ((2, a, o, x, y, l, t, i) : TCall) (⟨#[110, 104]⟩ : ByteArray) = ((decide (a = eS) || true) && ((decide (o = eS) || (false || false)) && ((decide (x = eS) || true) && ((decide (y = eS) || false) && ((decide (i = eS) || false) && ((decide (t = eS) || false) && ((l.length : Int) == 0 || (2 : Int) == 1))))))) := rfl
  simp only [e1, e2, e3, e6, e7, e5, e8]
  unfold lastB headB
  rw [e4]
  dsimp only [cName, cOld, cHash, cOther, cNote, cId, cOps]
  simp only [m110, m105, m111, m104, m120, m79, m116, ops_dec, free_opt, de, Bool.not_false, Bool.true_and, Bool.and_true, Bool.or_true, Bool.or_false, Bool.true_or, Bool.false_or, Bool.and_assoc, decide_true, beq_self_eq_true]
  have g1 : eS ≠ noS := by decide
  have g2 : comB noS = false := com_no
  rw [Bool.eq_iff_iff]
  simp only [Bool.and_eq_true, Bool.or_eq_true, decide_eq_true_eq, Bool.not_eq_true', decide_eq_false_iff_not, beq_iff_eq]
  generalize (l.all opOK = true) = P1
  generalize eS = e at *
  generalize noS = n at *
  grind
theorem pk_3 (a o x y : ByteArray) (l : List TOp) (t i : ByteArray) : progV (3, a, o, x, y, l, t, i) = isV (3, a, o, x, y, l, t, i) := by
  unfold progV isV
  have e1 : decide (wordV 3 = eS) = false := by decide
  have e2 : formV 3 = (⟨#[110, 104]⟩ : ByteArray) := rfl
  have e3 : mayV ((3, a, o, x, y, l, t, i) : TCall) = (nameB a && comB x) := rfl
  have e4 : ownV ((3, a, o, x, y, l, t, i) : TCall) = ((3, a, eS, x, eS, [], eS, eS) : TCall) := rfl
  have e5 : isL ((3, a, o, x, y, l, t, i) : TCall) (⟨#[110, 104]⟩ : ByteArray) 2 0 = (mayL (a) 110 && (mayL (x) 104 && true)) := rfl
  have e6 : decide (((⟨#[110, 104]⟩ : ByteArray) : ByteArray) = qS) = false := by decide
  have e7 : ((⟨#[110, 104]⟩ : ByteArray) : ByteArray).size = 2 := rfl
  have e8 : bareB ((3, a, o, x, y, l, t, i) : TCall) (⟨#[110, 104]⟩ : ByteArray) = ((decide (a = eS) || true) && ((decide (o = eS) || (false || false)) && ((decide (x = eS) || true) && ((decide (y = eS) || false) && ((decide (i = eS) || false) && ((decide (t = eS) || false) && ((l.length : Int) == 0 || (3 : Int) == 1))))))) := rfl
  simp only [e1, e2, e3, e6, e7, e5, e8]
  unfold lastB headB
  rw [e4]
  dsimp only [cName, cOld, cHash, cOther, cNote, cId, cOps]
  simp only [m110, m105, m111, m104, m120, m79, m116, ops_dec, free_opt, de, Bool.not_false, Bool.true_and, Bool.and_true, Bool.or_true, Bool.or_false, Bool.true_or, Bool.false_or, Bool.and_assoc, decide_true, beq_self_eq_true]
  have g1 : eS ≠ noS := by decide
  have g2 : comB noS = false := com_no
  rw [Bool.eq_iff_iff]
  simp only [Bool.and_eq_true, Bool.or_eq_true, decide_eq_true_eq, Bool.not_eq_true', decide_eq_false_iff_not, beq_iff_eq]
  generalize (l.all opOK = true) = P1
  generalize eS = e at *
  generalize noS = n at *
  grind
theorem pk_4 (a o x y : ByteArray) (l : List TOp) (t i : ByteArray) : progV (4, a, o, x, y, l, t, i) = isV (4, a, o, x, y, l, t, i) := by
  unfold progV isV
  have e1 : decide (wordV 4 = eS) = false := by decide
  have e2 : formV 4 = (⟨#[110, 111, 104]⟩ : ByteArray) := rfl
  have e3 : mayV ((4, a, o, x, y, l, t, i) : TCall) = (nameB a && (comB o && comB x)) := rfl
  have e4 : ownV ((4, a, o, x, y, l, t, i) : TCall) = ((4, a, o, x, eS, [], eS, eS) : TCall) := rfl
  have e5 : isL ((4, a, o, x, y, l, t, i) : TCall) (⟨#[110, 111, 104]⟩ : ByteArray) 3 0 = (mayL (a) 110 && (mayL (o) 111 && (mayL (x) 104 && true))) := rfl
  have e6 : decide (((⟨#[110, 111, 104]⟩ : ByteArray) : ByteArray) = qS) = false := by decide
  have e7 : ((⟨#[110, 111, 104]⟩ : ByteArray) : ByteArray).size = 3 := rfl
  have e8 : bareB ((4, a, o, x, y, l, t, i) : TCall) (⟨#[110, 111, 104]⟩ : ByteArray) = ((decide (a = eS) || true) && ((decide (o = eS) || (true || false)) && ((decide (x = eS) || true) && ((decide (y = eS) || false) && ((decide (i = eS) || false) && ((decide (t = eS) || false) && ((l.length : Int) == 0 || (4 : Int) == 1))))))) := rfl
  simp only [e1, e2, e3, e6, e7, e5, e8]
  unfold lastB headB
  rw [e4]
  dsimp only [cName, cOld, cHash, cOther, cNote, cId, cOps]
  simp only [m110, m105, m111, m104, m120, m79, m116, ops_dec, free_opt, de, Bool.not_false, Bool.true_and, Bool.and_true, Bool.or_true, Bool.or_false, Bool.true_or, Bool.false_or, Bool.and_assoc, decide_true, beq_self_eq_true]
  have g1 : eS ≠ noS := by decide
  have g2 : comB noS = false := com_no
  rw [Bool.eq_iff_iff]
  simp only [Bool.and_eq_true, Bool.or_eq_true, decide_eq_true_eq, Bool.not_eq_true', decide_eq_false_iff_not, beq_iff_eq]
  generalize (l.all opOK = true) = P1
  generalize eS = e at *
  generalize noS = n at *
  grind
theorem pk_5 (a o x y : ByteArray) (l : List TOp) (t i : ByteArray) : progV (5, a, o, x, y, l, t, i) = isV (5, a, o, x, y, l, t, i) := by
  unfold progV isV
  have e1 : decide (wordV 5 = eS) = false := by decide
  have e2 : formV 5 = (⟨#[110, 111]⟩ : ByteArray) := rfl
  have e3 : mayV ((5, a, o, x, y, l, t, i) : TCall) = (nameB a && comB o) := rfl
  have e4 : ownV ((5, a, o, x, y, l, t, i) : TCall) = ((5, a, o, eS, eS, [], eS, eS) : TCall) := rfl
  have e5 : isL ((5, a, o, x, y, l, t, i) : TCall) (⟨#[110, 111]⟩ : ByteArray) 2 0 = (mayL (a) 110 && (mayL (o) 111 && true)) := rfl
  have e6 : decide (((⟨#[110, 111]⟩ : ByteArray) : ByteArray) = qS) = false := by decide
  have e7 : ((⟨#[110, 111]⟩ : ByteArray) : ByteArray).size = 2 := rfl
  have e8 : bareB ((5, a, o, x, y, l, t, i) : TCall) (⟨#[110, 111]⟩ : ByteArray) = ((decide (a = eS) || true) && ((decide (o = eS) || (true || false)) && ((decide (x = eS) || false) && ((decide (y = eS) || false) && ((decide (i = eS) || false) && ((decide (t = eS) || false) && ((l.length : Int) == 0 || (5 : Int) == 1))))))) := rfl
  simp only [e1, e2, e3, e6, e7, e5, e8]
  unfold lastB headB
  rw [e4]
  dsimp only [cName, cOld, cHash, cOther, cNote, cId, cOps]
  simp only [m110, m105, m111, m104, m120, m79, m116, ops_dec, free_opt, de, Bool.not_false, Bool.true_and, Bool.and_true, Bool.or_true, Bool.or_false, Bool.true_or, Bool.false_or, Bool.and_assoc, decide_true, beq_self_eq_true]
  have g1 : eS ≠ noS := by decide
  have g2 : comB noS = false := com_no
  rw [Bool.eq_iff_iff]
  simp only [Bool.and_eq_true, Bool.or_eq_true, decide_eq_true_eq, Bool.not_eq_true', decide_eq_false_iff_not, beq_iff_eq]
  generalize (l.all opOK = true) = P1
  generalize eS = e at *
  generalize noS = n at *
  grind
theorem pk_6 (a o x y : ByteArray) (l : List TOp) (t i : ByteArray) : progV (6, a, o, x, y, l, t, i) = isV (6, a, o, x, y, l, t, i) := by
  unfold progV isV
  have e1 : decide (wordV 6 = eS) = false := by decide
  have e2 : formV 6 = (⟨#[110, 111]⟩ : ByteArray) := rfl
  have e3 : mayV ((6, a, o, x, y, l, t, i) : TCall) = (nameB a && comB o) := rfl
  have e4 : ownV ((6, a, o, x, y, l, t, i) : TCall) = ((6, a, o, eS, eS, [], eS, eS) : TCall) := rfl
  have e5 : isL ((6, a, o, x, y, l, t, i) : TCall) (⟨#[110, 111]⟩ : ByteArray) 2 0 = (mayL (a) 110 && (mayL (o) 111 && true)) := rfl
  have e6 : decide (((⟨#[110, 111]⟩ : ByteArray) : ByteArray) = qS) = false := by decide
  have e7 : ((⟨#[110, 111]⟩ : ByteArray) : ByteArray).size = 2 := rfl
  have e8 : bareB ((6, a, o, x, y, l, t, i) : TCall) (⟨#[110, 111]⟩ : ByteArray) = ((decide (a = eS) || true) && ((decide (o = eS) || (true || false)) && ((decide (x = eS) || false) && ((decide (y = eS) || false) && ((decide (i = eS) || false) && ((decide (t = eS) || false) && ((l.length : Int) == 0 || (6 : Int) == 1))))))) := rfl
  simp only [e1, e2, e3, e6, e7, e5, e8]
  unfold lastB headB
  rw [e4]
  dsimp only [cName, cOld, cHash, cOther, cNote, cId, cOps]
  simp only [m110, m105, m111, m104, m120, m79, m116, ops_dec, free_opt, de, Bool.not_false, Bool.true_and, Bool.and_true, Bool.or_true, Bool.or_false, Bool.true_or, Bool.false_or, Bool.and_assoc, decide_true, beq_self_eq_true]
  have g1 : eS ≠ noS := by decide
  have g2 : comB noS = false := com_no
  rw [Bool.eq_iff_iff]
  simp only [Bool.and_eq_true, Bool.or_eq_true, decide_eq_true_eq, Bool.not_eq_true', decide_eq_false_iff_not, beq_iff_eq]
  generalize (l.all opOK = true) = P1
  generalize eS = e at *
  generalize noS = n at *
  grind
theorem pk_7 (a o x y : ByteArray) (l : List TOp) (t i : ByteArray) : progV (7, a, o, x, y, l, t, i) = isV (7, a, o, x, y, l, t, i) := by
  unfold progV isV
  have e1 : decide (wordV 7 = eS) = false := by decide
  have e2 : formV 7 = (⟨#[104]⟩ : ByteArray) := rfl
  have e3 : mayV ((7, a, o, x, y, l, t, i) : TCall) = (comB x) := rfl
  have e4 : ownV ((7, a, o, x, y, l, t, i) : TCall) = ((7, eS, eS, x, eS, [], eS, eS) : TCall) := rfl
  have e5 : isL ((7, a, o, x, y, l, t, i) : TCall) (⟨#[104]⟩ : ByteArray) 1 0 = (mayL (x) 104 && true) := rfl
  have e6 : decide (((⟨#[104]⟩ : ByteArray) : ByteArray) = qS) = false := by decide
  have e7 : ((⟨#[104]⟩ : ByteArray) : ByteArray).size = 1 := rfl
  have e8 : bareB ((7, a, o, x, y, l, t, i) : TCall) (⟨#[104]⟩ : ByteArray) = ((decide (a = eS) || false) && ((decide (o = eS) || (false || false)) && ((decide (x = eS) || true) && ((decide (y = eS) || false) && ((decide (i = eS) || false) && ((decide (t = eS) || false) && ((l.length : Int) == 0 || (7 : Int) == 1))))))) := rfl
  simp only [e1, e2, e3, e6, e7, e5, e8]
  unfold lastB headB
  rw [e4]
  dsimp only [cName, cOld, cHash, cOther, cNote, cId, cOps]
  simp only [m110, m105, m111, m104, m120, m79, m116, ops_dec, free_opt, de, Bool.not_false, Bool.true_and, Bool.and_true, Bool.or_true, Bool.or_false, Bool.true_or, Bool.false_or, Bool.and_assoc, decide_true, beq_self_eq_true]
  have g1 : eS ≠ noS := by decide
  have g2 : comB noS = false := com_no
  rw [Bool.eq_iff_iff]
  simp only [Bool.and_eq_true, Bool.or_eq_true, decide_eq_true_eq, Bool.not_eq_true', decide_eq_false_iff_not, beq_iff_eq]
  generalize (l.all opOK = true) = P1
  generalize eS = e at *
  generalize noS = n at *
  grind
theorem pk_8 (a o x y : ByteArray) (l : List TOp) (t i : ByteArray) : progV (8, a, o, x, y, l, t, i) = isV (8, a, o, x, y, l, t, i) := by
  unfold progV isV
  have e1 : decide (wordV 8 = eS) = false := by decide
  have e2 : formV 8 = (⟨#[104, 105]⟩ : ByteArray) := rfl
  have e3 : mayV ((8, a, o, x, y, l, t, i) : TCall) = (comB x && nameB i) := rfl
  have e4 : ownV ((8, a, o, x, y, l, t, i) : TCall) = ((8, eS, eS, x, eS, [], eS, i) : TCall) := rfl
  have e5 : isL ((8, a, o, x, y, l, t, i) : TCall) (⟨#[104, 105]⟩ : ByteArray) 2 0 = (mayL (x) 104 && (mayL (i) 105 && true)) := rfl
  have e6 : decide (((⟨#[104, 105]⟩ : ByteArray) : ByteArray) = qS) = false := by decide
  have e7 : ((⟨#[104, 105]⟩ : ByteArray) : ByteArray).size = 2 := rfl
  have e8 : bareB ((8, a, o, x, y, l, t, i) : TCall) (⟨#[104, 105]⟩ : ByteArray) = ((decide (a = eS) || false) && ((decide (o = eS) || (false || false)) && ((decide (x = eS) || true) && ((decide (y = eS) || false) && ((decide (i = eS) || true) && ((decide (t = eS) || false) && ((l.length : Int) == 0 || (8 : Int) == 1))))))) := rfl
  simp only [e1, e2, e3, e6, e7, e5, e8]
  unfold lastB headB
  rw [e4]
  dsimp only [cName, cOld, cHash, cOther, cNote, cId, cOps]
  simp only [m110, m105, m111, m104, m120, m79, m116, ops_dec, free_opt, de, Bool.not_false, Bool.true_and, Bool.and_true, Bool.or_true, Bool.or_false, Bool.true_or, Bool.false_or, Bool.and_assoc, decide_true, beq_self_eq_true]
  have g1 : eS ≠ noS := by decide
  have g2 : comB noS = false := com_no
  rw [Bool.eq_iff_iff]
  simp only [Bool.and_eq_true, Bool.or_eq_true, decide_eq_true_eq, Bool.not_eq_true', decide_eq_false_iff_not, beq_iff_eq]
  generalize (l.all opOK = true) = P1
  generalize eS = e at *
  generalize noS = n at *
  grind
theorem pk_9 (a o x y : ByteArray) (l : List TOp) (t i : ByteArray) : progV (9, a, o, x, y, l, t, i) = isV (9, a, o, x, y, l, t, i) := by
  unfold progV isV
  have e1 : decide (wordV 9 = eS) = false := by decide
  have e2 : formV 9 = (⟨#[104, 105]⟩ : ByteArray) := rfl
  have e3 : mayV ((9, a, o, x, y, l, t, i) : TCall) = (comB x && nameB i) := rfl
  have e4 : ownV ((9, a, o, x, y, l, t, i) : TCall) = ((9, eS, eS, x, eS, [], eS, i) : TCall) := rfl
  have e5 : isL ((9, a, o, x, y, l, t, i) : TCall) (⟨#[104, 105]⟩ : ByteArray) 2 0 = (mayL (x) 104 && (mayL (i) 105 && true)) := rfl
  have e6 : decide (((⟨#[104, 105]⟩ : ByteArray) : ByteArray) = qS) = false := by decide
  have e7 : ((⟨#[104, 105]⟩ : ByteArray) : ByteArray).size = 2 := rfl
  have e8 : bareB ((9, a, o, x, y, l, t, i) : TCall) (⟨#[104, 105]⟩ : ByteArray) = ((decide (a = eS) || false) && ((decide (o = eS) || (false || false)) && ((decide (x = eS) || true) && ((decide (y = eS) || false) && ((decide (i = eS) || true) && ((decide (t = eS) || false) && ((l.length : Int) == 0 || (9 : Int) == 1))))))) := rfl
  simp only [e1, e2, e3, e6, e7, e5, e8]
  unfold lastB headB
  rw [e4]
  dsimp only [cName, cOld, cHash, cOther, cNote, cId, cOps]
  simp only [m110, m105, m111, m104, m120, m79, m116, ops_dec, free_opt, de, Bool.not_false, Bool.true_and, Bool.and_true, Bool.or_true, Bool.or_false, Bool.true_or, Bool.false_or, Bool.and_assoc, decide_true, beq_self_eq_true]
  have g1 : eS ≠ noS := by decide
  have g2 : comB noS = false := com_no
  rw [Bool.eq_iff_iff]
  simp only [Bool.and_eq_true, Bool.or_eq_true, decide_eq_true_eq, Bool.not_eq_true', decide_eq_false_iff_not, beq_iff_eq]
  generalize (l.all opOK = true) = P1
  generalize eS = e at *
  generalize noS = n at *
  grind
theorem pk_10 (a o x y : ByteArray) (l : List TOp) (t i : ByteArray) : progV (10, a, o, x, y, l, t, i) = isV (10, a, o, x, y, l, t, i) := by
  unfold progV isV
  have e1 : decide (wordV 10 = eS) = false := by decide
  have e2 : formV 10 = (⟨#[104, 105]⟩ : ByteArray) := rfl
  have e3 : mayV ((10, a, o, x, y, l, t, i) : TCall) = (comB x && nameB i) := rfl
  have e4 : ownV ((10, a, o, x, y, l, t, i) : TCall) = ((10, eS, eS, x, eS, [], eS, i) : TCall) := rfl
  have e5 : isL ((10, a, o, x, y, l, t, i) : TCall) (⟨#[104, 105]⟩ : ByteArray) 2 0 = (mayL (x) 104 && (mayL (i) 105 && true)) := rfl
  have e6 : decide (((⟨#[104, 105]⟩ : ByteArray) : ByteArray) = qS) = false := by decide
  have e7 : ((⟨#[104, 105]⟩ : ByteArray) : ByteArray).size = 2 := rfl
  have e8 : bareB ((10, a, o, x, y, l, t, i) : TCall) (⟨#[104, 105]⟩ : ByteArray) = ((decide (a = eS) || false) && ((decide (o = eS) || (false || false)) && ((decide (x = eS) || true) && ((decide (y = eS) || false) && ((decide (i = eS) || true) && ((decide (t = eS) || false) && ((l.length : Int) == 0 || (10 : Int) == 1))))))) := rfl
  simp only [e1, e2, e3, e6, e7, e5, e8]
  unfold lastB headB
  rw [e4]
  dsimp only [cName, cOld, cHash, cOther, cNote, cId, cOps]
  simp only [m110, m105, m111, m104, m120, m79, m116, ops_dec, free_opt, de, Bool.not_false, Bool.true_and, Bool.and_true, Bool.or_true, Bool.or_false, Bool.true_or, Bool.false_or, Bool.and_assoc, decide_true, beq_self_eq_true]
  have g1 : eS ≠ noS := by decide
  have g2 : comB noS = false := com_no
  rw [Bool.eq_iff_iff]
  simp only [Bool.and_eq_true, Bool.or_eq_true, decide_eq_true_eq, Bool.not_eq_true', decide_eq_false_iff_not, beq_iff_eq]
  generalize (l.all opOK = true) = P1
  generalize eS = e at *
  generalize noS = n at *
  grind
theorem pk_11 (a o x y : ByteArray) (l : List TOp) (t i : ByteArray) : progV (11, a, o, x, y, l, t, i) = isV (11, a, o, x, y, l, t, i) := by
  unfold progV isV
  have e1 : decide (wordV 11 = eS) = false := by decide
  have e2 : formV 11 = (⟨#[104, 105]⟩ : ByteArray) := rfl
  have e3 : mayV ((11, a, o, x, y, l, t, i) : TCall) = (comB x && nameB i) := rfl
  have e4 : ownV ((11, a, o, x, y, l, t, i) : TCall) = ((11, eS, eS, x, eS, [], eS, i) : TCall) := rfl
  have e5 : isL ((11, a, o, x, y, l, t, i) : TCall) (⟨#[104, 105]⟩ : ByteArray) 2 0 = (mayL (x) 104 && (mayL (i) 105 && true)) := rfl
  have e6 : decide (((⟨#[104, 105]⟩ : ByteArray) : ByteArray) = qS) = false := by decide
  have e7 : ((⟨#[104, 105]⟩ : ByteArray) : ByteArray).size = 2 := rfl
  have e8 : bareB ((11, a, o, x, y, l, t, i) : TCall) (⟨#[104, 105]⟩ : ByteArray) = ((decide (a = eS) || false) && ((decide (o = eS) || (false || false)) && ((decide (x = eS) || true) && ((decide (y = eS) || false) && ((decide (i = eS) || true) && ((decide (t = eS) || false) && ((l.length : Int) == 0 || (11 : Int) == 1))))))) := rfl
  simp only [e1, e2, e3, e6, e7, e5, e8]
  unfold lastB headB
  rw [e4]
  dsimp only [cName, cOld, cHash, cOther, cNote, cId, cOps]
  simp only [m110, m105, m111, m104, m120, m79, m116, ops_dec, free_opt, de, Bool.not_false, Bool.true_and, Bool.and_true, Bool.or_true, Bool.or_false, Bool.true_or, Bool.false_or, Bool.and_assoc, decide_true, beq_self_eq_true]
  have g1 : eS ≠ noS := by decide
  have g2 : comB noS = false := com_no
  rw [Bool.eq_iff_iff]
  simp only [Bool.and_eq_true, Bool.or_eq_true, decide_eq_true_eq, Bool.not_eq_true', decide_eq_false_iff_not, beq_iff_eq]
  generalize (l.all opOK = true) = P1
  generalize eS = e at *
  generalize noS = n at *
  grind
theorem pk_12 (a o x y : ByteArray) (l : List TOp) (t i : ByteArray) : progV (12, a, o, x, y, l, t, i) = isV (12, a, o, x, y, l, t, i) := by
  unfold progV isV
  have e1 : decide (wordV 12 = eS) = false := by decide
  have e2 : formV 12 = (⟨#[104, 120]⟩ : ByteArray) := rfl
  have e3 : mayV ((12, a, o, x, y, l, t, i) : TCall) = (comB x && comB y) := rfl
  have e4 : ownV ((12, a, o, x, y, l, t, i) : TCall) = ((12, eS, eS, x, y, [], eS, eS) : TCall) := rfl
  have e5 : isL ((12, a, o, x, y, l, t, i) : TCall) (⟨#[104, 120]⟩ : ByteArray) 2 0 = (mayL (x) 104 && (mayL (y) 120 && true)) := rfl
  have e6 : decide (((⟨#[104, 120]⟩ : ByteArray) : ByteArray) = qS) = false := by decide
  have e7 : ((⟨#[104, 120]⟩ : ByteArray) : ByteArray).size = 2 := rfl
  have e8 : bareB ((12, a, o, x, y, l, t, i) : TCall) (⟨#[104, 120]⟩ : ByteArray) = ((decide (a = eS) || false) && ((decide (o = eS) || (false || false)) && ((decide (x = eS) || true) && ((decide (y = eS) || true) && ((decide (i = eS) || false) && ((decide (t = eS) || false) && ((l.length : Int) == 0 || (12 : Int) == 1))))))) := rfl
  simp only [e1, e2, e3, e6, e7, e5, e8]
  unfold lastB headB
  rw [e4]
  dsimp only [cName, cOld, cHash, cOther, cNote, cId, cOps]
  simp only [m110, m105, m111, m104, m120, m79, m116, ops_dec, free_opt, de, Bool.not_false, Bool.true_and, Bool.and_true, Bool.or_true, Bool.or_false, Bool.true_or, Bool.false_or, Bool.and_assoc, decide_true, beq_self_eq_true]
  have g1 : eS ≠ noS := by decide
  have g2 : comB noS = false := com_no
  rw [Bool.eq_iff_iff]
  simp only [Bool.and_eq_true, Bool.or_eq_true, decide_eq_true_eq, Bool.not_eq_true', decide_eq_false_iff_not, beq_iff_eq]
  generalize (l.all opOK = true) = P1
  generalize eS = e at *
  generalize noS = n at *
  grind
theorem pk_13 (a o x y : ByteArray) (l : List TOp) (t i : ByteArray) : progV (13, a, o, x, y, l, t, i) = isV (13, a, o, x, y, l, t, i) := by
  unfold progV isV
  have e1 : decide (wordV 13 = eS) = false := by decide
  have e2 : formV 13 = (⟨#[110, 111, 104, 116]⟩ : ByteArray) := rfl
  have e3 : mayV ((13, a, o, x, y, l, t, i) : TCall) = (nameB a && (comB o && comB x)) := rfl
  have e4 : ownV ((13, a, o, x, y, l, t, i) : TCall) = ((13, a, o, x, eS, [], freeV (optV t), eS) : TCall) := rfl
  have e5 : isL ((13, a, o, x, y, l, t, i) : TCall) (⟨#[110, 111, 104, 116]⟩ : ByteArray) 4 0 = (mayL (a) 110 && (mayL (o) 111 && (mayL (x) 104 && (mayL (t) 116 && true)))) := rfl
  have e6 : decide (((⟨#[110, 111, 104, 116]⟩ : ByteArray) : ByteArray) = qS) = false := by decide
  have e7 : ((⟨#[110, 111, 104, 116]⟩ : ByteArray) : ByteArray).size = 4 := rfl
  have e8 : bareB ((13, a, o, x, y, l, t, i) : TCall) (⟨#[110, 111, 104, 116]⟩ : ByteArray) = ((decide (a = eS) || true) && ((decide (o = eS) || (true || false)) && ((decide (x = eS) || true) && ((decide (y = eS) || false) && ((decide (i = eS) || false) && ((decide (t = eS) || true) && ((l.length : Int) == 0 || (13 : Int) == 1))))))) := rfl
  simp only [e1, e2, e3, e6, e7, e5, e8]
  unfold lastB headB
  rw [e4]
  dsimp only [cName, cOld, cHash, cOther, cNote, cId, cOps]
  simp only [m110, m105, m111, m104, m120, m79, m116, ops_dec, free_opt, de, Bool.not_false, Bool.true_and, Bool.and_true, Bool.or_true, Bool.or_false, Bool.true_or, Bool.false_or, Bool.and_assoc, decide_true, beq_self_eq_true]
  have g1 : eS ≠ noS := by decide
  have g2 : comB noS = false := com_no
  rw [Bool.eq_iff_iff]
  simp only [Bool.and_eq_true, Bool.or_eq_true, decide_eq_true_eq, Bool.not_eq_true', decide_eq_false_iff_not, beq_iff_eq]
  generalize (l.all opOK = true) = P1
  generalize eS = e at *
  generalize noS = n at *
  grind
theorem pk_14 (a o x y : ByteArray) (l : List TOp) (t i : ByteArray) : progV (14, a, o, x, y, l, t, i) = isV (14, a, o, x, y, l, t, i) := by
  unfold progV isV
  have e1 : decide (wordV 14 = eS) = false := by decide
  have e2 : formV 14 = (⟨#[104, 120]⟩ : ByteArray) := rfl
  have e3 : mayV ((14, a, o, x, y, l, t, i) : TCall) = (comB x && comB y) := rfl
  have e4 : ownV ((14, a, o, x, y, l, t, i) : TCall) = ((14, eS, eS, x, y, [], eS, eS) : TCall) := rfl
  have e5 : isL ((14, a, o, x, y, l, t, i) : TCall) (⟨#[104, 120]⟩ : ByteArray) 2 0 = (mayL (x) 104 && (mayL (y) 120 && true)) := rfl
  have e6 : decide (((⟨#[104, 120]⟩ : ByteArray) : ByteArray) = qS) = false := by decide
  have e7 : ((⟨#[104, 120]⟩ : ByteArray) : ByteArray).size = 2 := rfl
  have e8 : bareB ((14, a, o, x, y, l, t, i) : TCall) (⟨#[104, 120]⟩ : ByteArray) = ((decide (a = eS) || false) && ((decide (o = eS) || (false || false)) && ((decide (x = eS) || true) && ((decide (y = eS) || true) && ((decide (i = eS) || false) && ((decide (t = eS) || false) && ((l.length : Int) == 0 || (14 : Int) == 1))))))) := rfl
  simp only [e1, e2, e3, e6, e7, e5, e8]
  unfold lastB headB
  rw [e4]
  dsimp only [cName, cOld, cHash, cOther, cNote, cId, cOps]
  simp only [m110, m105, m111, m104, m120, m79, m116, ops_dec, free_opt, de, Bool.not_false, Bool.true_and, Bool.and_true, Bool.or_true, Bool.or_false, Bool.true_or, Bool.false_or, Bool.and_assoc, decide_true, beq_self_eq_true]
  have g1 : eS ≠ noS := by decide
  have g2 : comB noS = false := com_no
  rw [Bool.eq_iff_iff]
  simp only [Bool.and_eq_true, Bool.or_eq_true, decide_eq_true_eq, Bool.not_eq_true', decide_eq_false_iff_not, beq_iff_eq]
  generalize (l.all opOK = true) = P1
  generalize eS = e at *
  generalize noS = n at *
  grind
theorem pk_15 (a o x y : ByteArray) (l : List TOp) (t i : ByteArray) : progV (15, a, o, x, y, l, t, i) = isV (15, a, o, x, y, l, t, i) := by
  unfold progV isV
  have e1 : decide (wordV 15 = eS) = false := by decide
  have e2 : formV 15 = (⟨#[104]⟩ : ByteArray) := rfl
  have e3 : mayV ((15, a, o, x, y, l, t, i) : TCall) = (comB x) := rfl
  have e4 : ownV ((15, a, o, x, y, l, t, i) : TCall) = ((15, eS, eS, x, eS, [], eS, eS) : TCall) := rfl
  have e5 : isL ((15, a, o, x, y, l, t, i) : TCall) (⟨#[104]⟩ : ByteArray) 1 0 = (mayL (x) 104 && true) := rfl
  have e6 : decide (((⟨#[104]⟩ : ByteArray) : ByteArray) = qS) = false := by decide
  have e7 : ((⟨#[104]⟩ : ByteArray) : ByteArray).size = 1 := rfl
  have e8 : bareB ((15, a, o, x, y, l, t, i) : TCall) (⟨#[104]⟩ : ByteArray) = ((decide (a = eS) || false) && ((decide (o = eS) || (false || false)) && ((decide (x = eS) || true) && ((decide (y = eS) || false) && ((decide (i = eS) || false) && ((decide (t = eS) || false) && ((l.length : Int) == 0 || (15 : Int) == 1))))))) := rfl
  simp only [e1, e2, e3, e6, e7, e5, e8]
  unfold lastB headB
  rw [e4]
  dsimp only [cName, cOld, cHash, cOther, cNote, cId, cOps]
  simp only [m110, m105, m111, m104, m120, m79, m116, ops_dec, free_opt, de, Bool.not_false, Bool.true_and, Bool.and_true, Bool.or_true, Bool.or_false, Bool.true_or, Bool.false_or, Bool.and_assoc, decide_true, beq_self_eq_true]
  have g1 : eS ≠ noS := by decide
  have g2 : comB noS = false := com_no
  rw [Bool.eq_iff_iff]
  simp only [Bool.and_eq_true, Bool.or_eq_true, decide_eq_true_eq, Bool.not_eq_true', decide_eq_false_iff_not, beq_iff_eq]
  generalize (l.all opOK = true) = P1
  generalize eS = e at *
  generalize noS = n at *
  grind
theorem pk_16 (a o x y : ByteArray) (l : List TOp) (t i : ByteArray) : progV (16, a, o, x, y, l, t, i) = isV (16, a, o, x, y, l, t, i) := by
  unfold progV isV
  have e1 : decide (wordV 16 = eS) = false := by decide
  have e2 : formV 16 = (⟨#[]⟩ : ByteArray) := rfl
  have e3 : mayV ((16, a, o, x, y, l, t, i) : TCall) = (true) := rfl
  have e4 : ownV ((16, a, o, x, y, l, t, i) : TCall) = ((16, eS, eS, eS, eS, [], eS, eS) : TCall) := rfl
  have e5 : isL ((16, a, o, x, y, l, t, i) : TCall) (⟨#[]⟩ : ByteArray) 0 0 = true := rfl
  have e6 : decide (((⟨#[]⟩ : ByteArray) : ByteArray) = qS) = false := by decide
  have e7 : ((⟨#[]⟩ : ByteArray) : ByteArray).size = 0 := rfl
  have e8 : bareB ((16, a, o, x, y, l, t, i) : TCall) (⟨#[]⟩ : ByteArray) = ((decide (a = eS) || false) && ((decide (o = eS) || (false || false)) && ((decide (x = eS) || false) && ((decide (y = eS) || false) && ((decide (i = eS) || false) && ((decide (t = eS) || false) && ((l.length : Int) == 0 || (16 : Int) == 1))))))) := rfl
  simp only [e1, e2, e3, e6, e7, e5, e8]
  unfold lastB headB
  rw [e4]
  dsimp only [cName, cOld, cHash, cOther, cNote, cId, cOps]
  simp only [m110, m105, m111, m104, m120, m79, m116, ops_dec, free_opt, de, Bool.not_false, Bool.true_and, Bool.and_true, Bool.or_true, Bool.or_false, Bool.true_or, Bool.false_or, Bool.and_assoc, decide_true, beq_self_eq_true]
  have g1 : eS ≠ noS := by decide
  have g2 : comB noS = false := com_no
  rw [Bool.eq_iff_iff]
  simp only [Bool.and_eq_true, Bool.or_eq_true, decide_eq_true_eq, Bool.not_eq_true', decide_eq_false_iff_not, beq_iff_eq]
  generalize (l.all opOK = true) = P1
  generalize eS = e at *
  generalize noS = n at *
  grind
theorem pk_17 (a o x y : ByteArray) (l : List TOp) (t i : ByteArray) : progV (17, a, o, x, y, l, t, i) = isV (17, a, o, x, y, l, t, i) := by
  unfold progV isV
  have e1 : decide (wordV 17 = eS) = false := by decide
  have e2 : formV 17 = (⟨#[]⟩ : ByteArray) := rfl
  have e3 : mayV ((17, a, o, x, y, l, t, i) : TCall) = (true) := rfl
  have e4 : ownV ((17, a, o, x, y, l, t, i) : TCall) = ((17, eS, eS, eS, eS, [], eS, eS) : TCall) := rfl
  have e5 : isL ((17, a, o, x, y, l, t, i) : TCall) (⟨#[]⟩ : ByteArray) 0 0 = true := rfl
  have e6 : decide (((⟨#[]⟩ : ByteArray) : ByteArray) = qS) = false := by decide
  have e7 : ((⟨#[]⟩ : ByteArray) : ByteArray).size = 0 := rfl
  have e8 : bareB ((17, a, o, x, y, l, t, i) : TCall) (⟨#[]⟩ : ByteArray) = ((decide (a = eS) || false) && ((decide (o = eS) || (false || false)) && ((decide (x = eS) || false) && ((decide (y = eS) || false) && ((decide (i = eS) || false) && ((decide (t = eS) || false) && ((l.length : Int) == 0 || (17 : Int) == 1))))))) := rfl
  simp only [e1, e2, e3, e6, e7, e5, e8]
  unfold lastB headB
  rw [e4]
  dsimp only [cName, cOld, cHash, cOther, cNote, cId, cOps]
  simp only [m110, m105, m111, m104, m120, m79, m116, ops_dec, free_opt, de, Bool.not_false, Bool.true_and, Bool.and_true, Bool.or_true, Bool.or_false, Bool.true_or, Bool.false_or, Bool.and_assoc, decide_true, beq_self_eq_true]
  have g1 : eS ≠ noS := by decide
  have g2 : comB noS = false := com_no
  rw [Bool.eq_iff_iff]
  simp only [Bool.and_eq_true, Bool.or_eq_true, decide_eq_true_eq, Bool.not_eq_true', decide_eq_false_iff_not, beq_iff_eq]
  generalize (l.all opOK = true) = P1
  generalize eS = e at *
  generalize noS = n at *
  grind
theorem pk_18 (a o x y : ByteArray) (l : List TOp) (t i : ByteArray) : progV (18, a, o, x, y, l, t, i) = isV (18, a, o, x, y, l, t, i) := by
  unfold progV isV
  have e1 : decide (wordV 18 = eS) = false := by decide
  have e2 : formV 18 = (⟨#[]⟩ : ByteArray) := rfl
  have e3 : mayV ((18, a, o, x, y, l, t, i) : TCall) = (true) := rfl
  have e4 : ownV ((18, a, o, x, y, l, t, i) : TCall) = ((18, eS, eS, eS, eS, [], eS, eS) : TCall) := rfl
  have e5 : isL ((18, a, o, x, y, l, t, i) : TCall) (⟨#[]⟩ : ByteArray) 0 0 = true := rfl
  have e6 : decide (((⟨#[]⟩ : ByteArray) : ByteArray) = qS) = false := by decide
  have e7 : ((⟨#[]⟩ : ByteArray) : ByteArray).size = 0 := rfl
  have e8 : bareB ((18, a, o, x, y, l, t, i) : TCall) (⟨#[]⟩ : ByteArray) = ((decide (a = eS) || false) && ((decide (o = eS) || (false || false)) && ((decide (x = eS) || false) && ((decide (y = eS) || false) && ((decide (i = eS) || false) && ((decide (t = eS) || false) && ((l.length : Int) == 0 || (18 : Int) == 1))))))) := rfl
  simp only [e1, e2, e3, e6, e7, e5, e8]
  unfold lastB headB
  rw [e4]
  dsimp only [cName, cOld, cHash, cOther, cNote, cId, cOps]
  simp only [m110, m105, m111, m104, m120, m79, m116, ops_dec, free_opt, de, Bool.not_false, Bool.true_and, Bool.and_true, Bool.or_true, Bool.or_false, Bool.true_or, Bool.false_or, Bool.and_assoc, decide_true, beq_self_eq_true]
  have g1 : eS ≠ noS := by decide
  have g2 : comB noS = false := com_no
  rw [Bool.eq_iff_iff]
  simp only [Bool.and_eq_true, Bool.or_eq_true, decide_eq_true_eq, Bool.not_eq_true', decide_eq_false_iff_not, beq_iff_eq]
  generalize (l.all opOK = true) = P1
  generalize eS = e at *
  generalize noS = n at *
  grind
theorem pk_19 (a o x y : ByteArray) (l : List TOp) (t i : ByteArray) : progV (19, a, o, x, y, l, t, i) = isV (19, a, o, x, y, l, t, i) := by
  unfold progV isV
  have e1 : decide (wordV 19 = eS) = false := by decide
  have e2 : formV 19 = (⟨#[]⟩ : ByteArray) := rfl
  have e3 : mayV ((19, a, o, x, y, l, t, i) : TCall) = (true) := rfl
  have e4 : ownV ((19, a, o, x, y, l, t, i) : TCall) = ((19, eS, eS, eS, eS, [], eS, eS) : TCall) := rfl
  have e5 : isL ((19, a, o, x, y, l, t, i) : TCall) (⟨#[]⟩ : ByteArray) 0 0 = true := rfl
  have e6 : decide (((⟨#[]⟩ : ByteArray) : ByteArray) = qS) = false := by decide
  have e7 : ((⟨#[]⟩ : ByteArray) : ByteArray).size = 0 := rfl
  have e8 : bareB ((19, a, o, x, y, l, t, i) : TCall) (⟨#[]⟩ : ByteArray) = ((decide (a = eS) || false) && ((decide (o = eS) || (false || false)) && ((decide (x = eS) || false) && ((decide (y = eS) || false) && ((decide (i = eS) || false) && ((decide (t = eS) || false) && ((l.length : Int) == 0 || (19 : Int) == 1))))))) := rfl
  simp only [e1, e2, e3, e6, e7, e5, e8]
  unfold lastB headB
  rw [e4]
  dsimp only [cName, cOld, cHash, cOther, cNote, cId, cOps]
  simp only [m110, m105, m111, m104, m120, m79, m116, ops_dec, free_opt, de, Bool.not_false, Bool.true_and, Bool.and_true, Bool.or_true, Bool.or_false, Bool.true_or, Bool.false_or, Bool.and_assoc, decide_true, beq_self_eq_true]
  have g1 : eS ≠ noS := by decide
  have g2 : comB noS = false := com_no
  rw [Bool.eq_iff_iff]
  simp only [Bool.and_eq_true, Bool.or_eq_true, decide_eq_true_eq, Bool.not_eq_true', decide_eq_false_iff_not, beq_iff_eq]
  generalize (l.all opOK = true) = P1
  generalize eS = e at *
  generalize noS = n at *
  grind
theorem prog_is (c : TCall) : progV c = isV c := by
  obtain ⟨k, a, o, x, y, l, t, i⟩ := c
  by_cases h : k < 1 ∨ 19 < k
  · exact fields_low _ h
  · have : k = 1 ∨ k = 2 ∨ k = 3 ∨ k = 4 ∨ k = 5 ∨ k = 6 ∨ k = 7 ∨ k = 8 ∨ k = 9 ∨ k = 10 ∨ k = 11 ∨ k = 12 ∨ k = 13 ∨ k = 14 ∨ k = 15 ∨ k = 16 ∨ k = 17 ∨ k = 18 ∨ k = 19 := by omega
    rcases this with rfl | rfl | rfl | rfl | rfl | rfl | rfl | rfl | rfl | rfl | rfl | rfl | rfl | rfl | rfl | rfl | rfl | rfl | rfl
    · exact pk_1 _ _ _ _ _ _ _
    · exact pk_2 _ _ _ _ _ _ _
    · exact pk_3 _ _ _ _ _ _ _
    · exact pk_4 _ _ _ _ _ _ _
    · exact pk_5 _ _ _ _ _ _ _
    · exact pk_6 _ _ _ _ _ _ _
    · exact pk_7 _ _ _ _ _ _ _
    · exact pk_8 _ _ _ _ _ _ _
    · exact pk_9 _ _ _ _ _ _ _
    · exact pk_10 _ _ _ _ _ _ _
    · exact pk_11 _ _ _ _ _ _ _
    · exact pk_12 _ _ _ _ _ _ _
    · exact pk_13 _ _ _ _ _ _ _
    · exact pk_14 _ _ _ _ _ _ _
    · exact pk_15 _ _ _ _ _ _ _
    · exact pk_16 _ _ _ _ _ _ _
    · exact pk_17 _ _ _ _ _ _ _
    · exact pk_18 _ _ _ _ _ _ _
    · exact pk_19 _ _ _ _ _ _ _
theorem lCheck_ok (c : TCall) (hc : okC c) : V.line_Check c = some (if isV c then 0 else 2) := by rw [Check_prog c hc, prog_is]
theorem ik_1 {a o x y : ByteArray} {l : List TOp} {t i : ByteArray} (h : isV (1, a, o, x, y, l, t, i) = true) : nameB a = true ∧ (comB o = true ∨ o = eS) ∧ (t = eS ∨ (nameB t = true ∧ t ≠ noS)) ∧ x = eS ∧ y = eS ∧ i = eS ∧ l.length ≤ 64 ∧ l.all opOK = true := by
  unfold isV at h
  have e2 : formV 1 = (⟨#[110, 79, 116]⟩ : ByteArray) := rfl
  have e5 : isL ((1, a, o, x, y, l, t, i) : TCall) (⟨#[110, 79, 116]⟩ : ByteArray) 3 0 = (mayL (a) 110 && (mayL (o) 79 && (mayL (t) 116 && true))) := rfl
  have e6 : decide (((⟨#[110, 79, 116]⟩ : ByteArray) : ByteArray) = qS) = false := by decide
  have e7 : ((⟨#[110, 79, 116]⟩ : ByteArray) : ByteArray).size = 3 := rfl
  have e8 : bareB ((1, a, o, x, y, l, t, i) : TCall) (⟨#[110, 79, 116]⟩ : ByteArray) = ((decide (a = eS) || true) && ((decide (o = eS) || (false || true)) && ((decide (x = eS) || false) && ((decide (y = eS) || false) && ((decide (i = eS) || false) && ((decide (t = eS) || true) && ((l.length : Int) == 0 || (1 : Int) == 1))))))) := rfl
  simp only [e2, e6, e7, e5, e8] at h
  simp only [m110, m105, m111, m104, m120, m79, m116, ops_dec, Bool.not_false, Bool.true_and, Bool.and_true, Bool.or_true, Bool.or_false, Bool.true_or, Bool.false_or, Bool.and_assoc, decide_true, beq_self_eq_true] at h
  simp only [Bool.and_eq_true, Bool.or_eq_true, decide_eq_true_eq, Bool.not_eq_true', decide_eq_false_iff_not, beq_iff_eq] at h
  grind
theorem ik_2 {a o x y : ByteArray} {l : List TOp} {t i : ByteArray} (h : isV (2, a, o, x, y, l, t, i) = true) : nameB a = true ∧ comB x = true ∧ o = eS ∧ y = eS ∧ i = eS ∧ t = eS ∧ l = [] ∧ l.length ≤ 64 ∧ l.all opOK = true := by
  unfold isV at h
  have e2 : formV 2 = (⟨#[110, 104]⟩ : ByteArray) := rfl
  have e5 : isL ((2, a, o, x, y, l, t, i) : TCall) (⟨#[110, 104]⟩ : ByteArray) 2 0 = (mayL (a) 110 && (mayL (x) 104 && true)) := rfl
  have e6 : decide (((⟨#[110, 104]⟩ : ByteArray) : ByteArray) = qS) = false := by decide
  have e7 : ((⟨#[110, 104]⟩ : ByteArray) : ByteArray).size = 2 := rfl
  have e8 : bareB ((2, a, o, x, y, l, t, i) : TCall) (⟨#[110, 104]⟩ : ByteArray) = ((decide (a = eS) || true) && ((decide (o = eS) || (false || false)) && ((decide (x = eS) || true) && ((decide (y = eS) || false) && ((decide (i = eS) || false) && ((decide (t = eS) || false) && ((l.length : Int) == 0 || (2 : Int) == 1))))))) := rfl
  simp only [e2, e6, e7, e5, e8] at h
  simp only [m110, m105, m111, m104, m120, m79, m116, ops_dec, Bool.not_false, Bool.true_and, Bool.and_true, Bool.or_true, Bool.or_false, Bool.true_or, Bool.false_or, Bool.and_assoc, decide_true, beq_self_eq_true] at h
  simp only [Bool.and_eq_true, Bool.or_eq_true, decide_eq_true_eq, Bool.not_eq_true', decide_eq_false_iff_not, beq_iff_eq] at h
  grind
theorem ik_3 {a o x y : ByteArray} {l : List TOp} {t i : ByteArray} (h : isV (3, a, o, x, y, l, t, i) = true) : nameB a = true ∧ comB x = true ∧ o = eS ∧ y = eS ∧ i = eS ∧ t = eS ∧ l = [] ∧ l.length ≤ 64 ∧ l.all opOK = true := by
  unfold isV at h
  have e2 : formV 3 = (⟨#[110, 104]⟩ : ByteArray) := rfl
  have e5 : isL ((3, a, o, x, y, l, t, i) : TCall) (⟨#[110, 104]⟩ : ByteArray) 2 0 = (mayL (a) 110 && (mayL (x) 104 && true)) := rfl
  have e6 : decide (((⟨#[110, 104]⟩ : ByteArray) : ByteArray) = qS) = false := by decide
  have e7 : ((⟨#[110, 104]⟩ : ByteArray) : ByteArray).size = 2 := rfl
  have e8 : bareB ((3, a, o, x, y, l, t, i) : TCall) (⟨#[110, 104]⟩ : ByteArray) = ((decide (a = eS) || true) && ((decide (o = eS) || (false || false)) && ((decide (x = eS) || true) && ((decide (y = eS) || false) && ((decide (i = eS) || false) && ((decide (t = eS) || false) && ((l.length : Int) == 0 || (3 : Int) == 1))))))) := rfl
  simp only [e2, e6, e7, e5, e8] at h
  simp only [m110, m105, m111, m104, m120, m79, m116, ops_dec, Bool.not_false, Bool.true_and, Bool.and_true, Bool.or_true, Bool.or_false, Bool.true_or, Bool.false_or, Bool.and_assoc, decide_true, beq_self_eq_true] at h
  simp only [Bool.and_eq_true, Bool.or_eq_true, decide_eq_true_eq, Bool.not_eq_true', decide_eq_false_iff_not, beq_iff_eq] at h
  grind
theorem ik_4 {a o x y : ByteArray} {l : List TOp} {t i : ByteArray} (h : isV (4, a, o, x, y, l, t, i) = true) : nameB a = true ∧ comB o = true ∧ comB x = true ∧ y = eS ∧ i = eS ∧ t = eS ∧ l = [] ∧ l.length ≤ 64 ∧ l.all opOK = true := by
  unfold isV at h
  have e2 : formV 4 = (⟨#[110, 111, 104]⟩ : ByteArray) := rfl
  have e5 : isL ((4, a, o, x, y, l, t, i) : TCall) (⟨#[110, 111, 104]⟩ : ByteArray) 3 0 = (mayL (a) 110 && (mayL (o) 111 && (mayL (x) 104 && true))) := rfl
  have e6 : decide (((⟨#[110, 111, 104]⟩ : ByteArray) : ByteArray) = qS) = false := by decide
  have e7 : ((⟨#[110, 111, 104]⟩ : ByteArray) : ByteArray).size = 3 := rfl
  have e8 : bareB ((4, a, o, x, y, l, t, i) : TCall) (⟨#[110, 111, 104]⟩ : ByteArray) = ((decide (a = eS) || true) && ((decide (o = eS) || (true || false)) && ((decide (x = eS) || true) && ((decide (y = eS) || false) && ((decide (i = eS) || false) && ((decide (t = eS) || false) && ((l.length : Int) == 0 || (4 : Int) == 1))))))) := rfl
  simp only [e2, e6, e7, e5, e8] at h
  simp only [m110, m105, m111, m104, m120, m79, m116, ops_dec, Bool.not_false, Bool.true_and, Bool.and_true, Bool.or_true, Bool.or_false, Bool.true_or, Bool.false_or, Bool.and_assoc, decide_true, beq_self_eq_true] at h
  simp only [Bool.and_eq_true, Bool.or_eq_true, decide_eq_true_eq, Bool.not_eq_true', decide_eq_false_iff_not, beq_iff_eq] at h
  grind
theorem ik_5 {a o x y : ByteArray} {l : List TOp} {t i : ByteArray} (h : isV (5, a, o, x, y, l, t, i) = true) : nameB a = true ∧ comB o = true ∧ x = eS ∧ y = eS ∧ i = eS ∧ t = eS ∧ l = [] ∧ l.length ≤ 64 ∧ l.all opOK = true := by
  unfold isV at h
  have e2 : formV 5 = (⟨#[110, 111]⟩ : ByteArray) := rfl
  have e5 : isL ((5, a, o, x, y, l, t, i) : TCall) (⟨#[110, 111]⟩ : ByteArray) 2 0 = (mayL (a) 110 && (mayL (o) 111 && true)) := rfl
  have e6 : decide (((⟨#[110, 111]⟩ : ByteArray) : ByteArray) = qS) = false := by decide
  have e7 : ((⟨#[110, 111]⟩ : ByteArray) : ByteArray).size = 2 := rfl
  have e8 : bareB ((5, a, o, x, y, l, t, i) : TCall) (⟨#[110, 111]⟩ : ByteArray) = ((decide (a = eS) || true) && ((decide (o = eS) || (true || false)) && ((decide (x = eS) || false) && ((decide (y = eS) || false) && ((decide (i = eS) || false) && ((decide (t = eS) || false) && ((l.length : Int) == 0 || (5 : Int) == 1))))))) := rfl
  simp only [e2, e6, e7, e5, e8] at h
  simp only [m110, m105, m111, m104, m120, m79, m116, ops_dec, Bool.not_false, Bool.true_and, Bool.and_true, Bool.or_true, Bool.or_false, Bool.true_or, Bool.false_or, Bool.and_assoc, decide_true, beq_self_eq_true] at h
  simp only [Bool.and_eq_true, Bool.or_eq_true, decide_eq_true_eq, Bool.not_eq_true', decide_eq_false_iff_not, beq_iff_eq] at h
  grind
theorem ik_6 {a o x y : ByteArray} {l : List TOp} {t i : ByteArray} (h : isV (6, a, o, x, y, l, t, i) = true) : nameB a = true ∧ comB o = true ∧ x = eS ∧ y = eS ∧ i = eS ∧ t = eS ∧ l = [] ∧ l.length ≤ 64 ∧ l.all opOK = true := by
  unfold isV at h
  have e2 : formV 6 = (⟨#[110, 111]⟩ : ByteArray) := rfl
  have e5 : isL ((6, a, o, x, y, l, t, i) : TCall) (⟨#[110, 111]⟩ : ByteArray) 2 0 = (mayL (a) 110 && (mayL (o) 111 && true)) := rfl
  have e6 : decide (((⟨#[110, 111]⟩ : ByteArray) : ByteArray) = qS) = false := by decide
  have e7 : ((⟨#[110, 111]⟩ : ByteArray) : ByteArray).size = 2 := rfl
  have e8 : bareB ((6, a, o, x, y, l, t, i) : TCall) (⟨#[110, 111]⟩ : ByteArray) = ((decide (a = eS) || true) && ((decide (o = eS) || (true || false)) && ((decide (x = eS) || false) && ((decide (y = eS) || false) && ((decide (i = eS) || false) && ((decide (t = eS) || false) && ((l.length : Int) == 0 || (6 : Int) == 1))))))) := rfl
  simp only [e2, e6, e7, e5, e8] at h
  simp only [m110, m105, m111, m104, m120, m79, m116, ops_dec, Bool.not_false, Bool.true_and, Bool.and_true, Bool.or_true, Bool.or_false, Bool.true_or, Bool.false_or, Bool.and_assoc, decide_true, beq_self_eq_true] at h
  simp only [Bool.and_eq_true, Bool.or_eq_true, decide_eq_true_eq, Bool.not_eq_true', decide_eq_false_iff_not, beq_iff_eq] at h
  grind
theorem ik_7 {a o x y : ByteArray} {l : List TOp} {t i : ByteArray} (h : isV (7, a, o, x, y, l, t, i) = true) : comB x = true ∧ a = eS ∧ o = eS ∧ y = eS ∧ i = eS ∧ t = eS ∧ l = [] ∧ l.length ≤ 64 ∧ l.all opOK = true := by
  unfold isV at h
  have e2 : formV 7 = (⟨#[104]⟩ : ByteArray) := rfl
  have e5 : isL ((7, a, o, x, y, l, t, i) : TCall) (⟨#[104]⟩ : ByteArray) 1 0 = (mayL (x) 104 && true) := rfl
  have e6 : decide (((⟨#[104]⟩ : ByteArray) : ByteArray) = qS) = false := by decide
  have e7 : ((⟨#[104]⟩ : ByteArray) : ByteArray).size = 1 := rfl
  have e8 : bareB ((7, a, o, x, y, l, t, i) : TCall) (⟨#[104]⟩ : ByteArray) = ((decide (a = eS) || false) && ((decide (o = eS) || (false || false)) && ((decide (x = eS) || true) && ((decide (y = eS) || false) && ((decide (i = eS) || false) && ((decide (t = eS) || false) && ((l.length : Int) == 0 || (7 : Int) == 1))))))) := rfl
  simp only [e2, e6, e7, e5, e8] at h
  simp only [m110, m105, m111, m104, m120, m79, m116, ops_dec, Bool.not_false, Bool.true_and, Bool.and_true, Bool.or_true, Bool.or_false, Bool.true_or, Bool.false_or, Bool.and_assoc, decide_true, beq_self_eq_true] at h
  simp only [Bool.and_eq_true, Bool.or_eq_true, decide_eq_true_eq, Bool.not_eq_true', decide_eq_false_iff_not, beq_iff_eq] at h
  grind
theorem ik_8 {a o x y : ByteArray} {l : List TOp} {t i : ByteArray} (h : isV (8, a, o, x, y, l, t, i) = true) : comB x = true ∧ nameB i = true ∧ a = eS ∧ o = eS ∧ y = eS ∧ t = eS ∧ l = [] ∧ l.length ≤ 64 ∧ l.all opOK = true := by
  unfold isV at h
  have e2 : formV 8 = (⟨#[104, 105]⟩ : ByteArray) := rfl
  have e5 : isL ((8, a, o, x, y, l, t, i) : TCall) (⟨#[104, 105]⟩ : ByteArray) 2 0 = (mayL (x) 104 && (mayL (i) 105 && true)) := rfl
  have e6 : decide (((⟨#[104, 105]⟩ : ByteArray) : ByteArray) = qS) = false := by decide
  have e7 : ((⟨#[104, 105]⟩ : ByteArray) : ByteArray).size = 2 := rfl
  have e8 : bareB ((8, a, o, x, y, l, t, i) : TCall) (⟨#[104, 105]⟩ : ByteArray) = ((decide (a = eS) || false) && ((decide (o = eS) || (false || false)) && ((decide (x = eS) || true) && ((decide (y = eS) || false) && ((decide (i = eS) || true) && ((decide (t = eS) || false) && ((l.length : Int) == 0 || (8 : Int) == 1))))))) := rfl
  simp only [e2, e6, e7, e5, e8] at h
  simp only [m110, m105, m111, m104, m120, m79, m116, ops_dec, Bool.not_false, Bool.true_and, Bool.and_true, Bool.or_true, Bool.or_false, Bool.true_or, Bool.false_or, Bool.and_assoc, decide_true, beq_self_eq_true] at h
  simp only [Bool.and_eq_true, Bool.or_eq_true, decide_eq_true_eq, Bool.not_eq_true', decide_eq_false_iff_not, beq_iff_eq] at h
  grind
theorem ik_9 {a o x y : ByteArray} {l : List TOp} {t i : ByteArray} (h : isV (9, a, o, x, y, l, t, i) = true) : comB x = true ∧ nameB i = true ∧ a = eS ∧ o = eS ∧ y = eS ∧ t = eS ∧ l = [] ∧ l.length ≤ 64 ∧ l.all opOK = true := by
  unfold isV at h
  have e2 : formV 9 = (⟨#[104, 105]⟩ : ByteArray) := rfl
  have e5 : isL ((9, a, o, x, y, l, t, i) : TCall) (⟨#[104, 105]⟩ : ByteArray) 2 0 = (mayL (x) 104 && (mayL (i) 105 && true)) := rfl
  have e6 : decide (((⟨#[104, 105]⟩ : ByteArray) : ByteArray) = qS) = false := by decide
  have e7 : ((⟨#[104, 105]⟩ : ByteArray) : ByteArray).size = 2 := rfl
  have e8 : bareB ((9, a, o, x, y, l, t, i) : TCall) (⟨#[104, 105]⟩ : ByteArray) = ((decide (a = eS) || false) && ((decide (o = eS) || (false || false)) && ((decide (x = eS) || true) && ((decide (y = eS) || false) && ((decide (i = eS) || true) && ((decide (t = eS) || false) && ((l.length : Int) == 0 || (9 : Int) == 1))))))) := rfl
  simp only [e2, e6, e7, e5, e8] at h
  simp only [m110, m105, m111, m104, m120, m79, m116, ops_dec, Bool.not_false, Bool.true_and, Bool.and_true, Bool.or_true, Bool.or_false, Bool.true_or, Bool.false_or, Bool.and_assoc, decide_true, beq_self_eq_true] at h
  simp only [Bool.and_eq_true, Bool.or_eq_true, decide_eq_true_eq, Bool.not_eq_true', decide_eq_false_iff_not, beq_iff_eq] at h
  grind
theorem ik_10 {a o x y : ByteArray} {l : List TOp} {t i : ByteArray} (h : isV (10, a, o, x, y, l, t, i) = true) : comB x = true ∧ nameB i = true ∧ a = eS ∧ o = eS ∧ y = eS ∧ t = eS ∧ l = [] ∧ l.length ≤ 64 ∧ l.all opOK = true := by
  unfold isV at h
  have e2 : formV 10 = (⟨#[104, 105]⟩ : ByteArray) := rfl
  have e5 : isL ((10, a, o, x, y, l, t, i) : TCall) (⟨#[104, 105]⟩ : ByteArray) 2 0 = (mayL (x) 104 && (mayL (i) 105 && true)) := rfl
  have e6 : decide (((⟨#[104, 105]⟩ : ByteArray) : ByteArray) = qS) = false := by decide
  have e7 : ((⟨#[104, 105]⟩ : ByteArray) : ByteArray).size = 2 := rfl
  have e8 : bareB ((10, a, o, x, y, l, t, i) : TCall) (⟨#[104, 105]⟩ : ByteArray) = ((decide (a = eS) || false) && ((decide (o = eS) || (false || false)) && ((decide (x = eS) || true) && ((decide (y = eS) || false) && ((decide (i = eS) || true) && ((decide (t = eS) || false) && ((l.length : Int) == 0 || (10 : Int) == 1))))))) := rfl
  simp only [e2, e6, e7, e5, e8] at h
  simp only [m110, m105, m111, m104, m120, m79, m116, ops_dec, Bool.not_false, Bool.true_and, Bool.and_true, Bool.or_true, Bool.or_false, Bool.true_or, Bool.false_or, Bool.and_assoc, decide_true, beq_self_eq_true] at h
  simp only [Bool.and_eq_true, Bool.or_eq_true, decide_eq_true_eq, Bool.not_eq_true', decide_eq_false_iff_not, beq_iff_eq] at h
  grind
theorem ik_11 {a o x y : ByteArray} {l : List TOp} {t i : ByteArray} (h : isV (11, a, o, x, y, l, t, i) = true) : comB x = true ∧ nameB i = true ∧ a = eS ∧ o = eS ∧ y = eS ∧ t = eS ∧ l = [] ∧ l.length ≤ 64 ∧ l.all opOK = true := by
  unfold isV at h
  have e2 : formV 11 = (⟨#[104, 105]⟩ : ByteArray) := rfl
  have e5 : isL ((11, a, o, x, y, l, t, i) : TCall) (⟨#[104, 105]⟩ : ByteArray) 2 0 = (mayL (x) 104 && (mayL (i) 105 && true)) := rfl
  have e6 : decide (((⟨#[104, 105]⟩ : ByteArray) : ByteArray) = qS) = false := by decide
  have e7 : ((⟨#[104, 105]⟩ : ByteArray) : ByteArray).size = 2 := rfl
  have e8 : bareB ((11, a, o, x, y, l, t, i) : TCall) (⟨#[104, 105]⟩ : ByteArray) = ((decide (a = eS) || false) && ((decide (o = eS) || (false || false)) && ((decide (x = eS) || true) && ((decide (y = eS) || false) && ((decide (i = eS) || true) && ((decide (t = eS) || false) && ((l.length : Int) == 0 || (11 : Int) == 1))))))) := rfl
  simp only [e2, e6, e7, e5, e8] at h
  simp only [m110, m105, m111, m104, m120, m79, m116, ops_dec, Bool.not_false, Bool.true_and, Bool.and_true, Bool.or_true, Bool.or_false, Bool.true_or, Bool.false_or, Bool.and_assoc, decide_true, beq_self_eq_true] at h
  simp only [Bool.and_eq_true, Bool.or_eq_true, decide_eq_true_eq, Bool.not_eq_true', decide_eq_false_iff_not, beq_iff_eq] at h
  grind
theorem ik_12 {a o x y : ByteArray} {l : List TOp} {t i : ByteArray} (h : isV (12, a, o, x, y, l, t, i) = true) : comB x = true ∧ comB y = true ∧ a = eS ∧ o = eS ∧ i = eS ∧ t = eS ∧ l = [] ∧ l.length ≤ 64 ∧ l.all opOK = true := by
  unfold isV at h
  have e2 : formV 12 = (⟨#[104, 120]⟩ : ByteArray) := rfl
  have e5 : isL ((12, a, o, x, y, l, t, i) : TCall) (⟨#[104, 120]⟩ : ByteArray) 2 0 = (mayL (x) 104 && (mayL (y) 120 && true)) := rfl
  have e6 : decide (((⟨#[104, 120]⟩ : ByteArray) : ByteArray) = qS) = false := by decide
  have e7 : ((⟨#[104, 120]⟩ : ByteArray) : ByteArray).size = 2 := rfl
  have e8 : bareB ((12, a, o, x, y, l, t, i) : TCall) (⟨#[104, 120]⟩ : ByteArray) = ((decide (a = eS) || false) && ((decide (o = eS) || (false || false)) && ((decide (x = eS) || true) && ((decide (y = eS) || true) && ((decide (i = eS) || false) && ((decide (t = eS) || false) && ((l.length : Int) == 0 || (12 : Int) == 1))))))) := rfl
  simp only [e2, e6, e7, e5, e8] at h
  simp only [m110, m105, m111, m104, m120, m79, m116, ops_dec, Bool.not_false, Bool.true_and, Bool.and_true, Bool.or_true, Bool.or_false, Bool.true_or, Bool.false_or, Bool.and_assoc, decide_true, beq_self_eq_true] at h
  simp only [Bool.and_eq_true, Bool.or_eq_true, decide_eq_true_eq, Bool.not_eq_true', decide_eq_false_iff_not, beq_iff_eq] at h
  grind
theorem ik_13 {a o x y : ByteArray} {l : List TOp} {t i : ByteArray} (h : isV (13, a, o, x, y, l, t, i) = true) : nameB a = true ∧ comB o = true ∧ comB x = true ∧ (t = eS ∨ (nameB t = true ∧ t ≠ noS)) ∧ y = eS ∧ i = eS ∧ l = [] ∧ l.length ≤ 64 ∧ l.all opOK = true := by
  unfold isV at h
  have e2 : formV 13 = (⟨#[110, 111, 104, 116]⟩ : ByteArray) := rfl
  have e5 : isL ((13, a, o, x, y, l, t, i) : TCall) (⟨#[110, 111, 104, 116]⟩ : ByteArray) 4 0 = (mayL (a) 110 && (mayL (o) 111 && (mayL (x) 104 && (mayL (t) 116 && true)))) := rfl
  have e6 : decide (((⟨#[110, 111, 104, 116]⟩ : ByteArray) : ByteArray) = qS) = false := by decide
  have e7 : ((⟨#[110, 111, 104, 116]⟩ : ByteArray) : ByteArray).size = 4 := rfl
  have e8 : bareB ((13, a, o, x, y, l, t, i) : TCall) (⟨#[110, 111, 104, 116]⟩ : ByteArray) = ((decide (a = eS) || true) && ((decide (o = eS) || (true || false)) && ((decide (x = eS) || true) && ((decide (y = eS) || false) && ((decide (i = eS) || false) && ((decide (t = eS) || true) && ((l.length : Int) == 0 || (13 : Int) == 1))))))) := rfl
  simp only [e2, e6, e7, e5, e8] at h
  simp only [m110, m105, m111, m104, m120, m79, m116, ops_dec, Bool.not_false, Bool.true_and, Bool.and_true, Bool.or_true, Bool.or_false, Bool.true_or, Bool.false_or, Bool.and_assoc, decide_true, beq_self_eq_true] at h
  simp only [Bool.and_eq_true, Bool.or_eq_true, decide_eq_true_eq, Bool.not_eq_true', decide_eq_false_iff_not, beq_iff_eq] at h
  grind
theorem ik_14 {a o x y : ByteArray} {l : List TOp} {t i : ByteArray} (h : isV (14, a, o, x, y, l, t, i) = true) : comB x = true ∧ comB y = true ∧ a = eS ∧ o = eS ∧ i = eS ∧ t = eS ∧ l = [] ∧ l.length ≤ 64 ∧ l.all opOK = true := by
  unfold isV at h
  have e2 : formV 14 = (⟨#[104, 120]⟩ : ByteArray) := rfl
  have e5 : isL ((14, a, o, x, y, l, t, i) : TCall) (⟨#[104, 120]⟩ : ByteArray) 2 0 = (mayL (x) 104 && (mayL (y) 120 && true)) := rfl
  have e6 : decide (((⟨#[104, 120]⟩ : ByteArray) : ByteArray) = qS) = false := by decide
  have e7 : ((⟨#[104, 120]⟩ : ByteArray) : ByteArray).size = 2 := rfl
  have e8 : bareB ((14, a, o, x, y, l, t, i) : TCall) (⟨#[104, 120]⟩ : ByteArray) = ((decide (a = eS) || false) && ((decide (o = eS) || (false || false)) && ((decide (x = eS) || true) && ((decide (y = eS) || true) && ((decide (i = eS) || false) && ((decide (t = eS) || false) && ((l.length : Int) == 0 || (14 : Int) == 1))))))) := rfl
  simp only [e2, e6, e7, e5, e8] at h
  simp only [m110, m105, m111, m104, m120, m79, m116, ops_dec, Bool.not_false, Bool.true_and, Bool.and_true, Bool.or_true, Bool.or_false, Bool.true_or, Bool.false_or, Bool.and_assoc, decide_true, beq_self_eq_true] at h
  simp only [Bool.and_eq_true, Bool.or_eq_true, decide_eq_true_eq, Bool.not_eq_true', decide_eq_false_iff_not, beq_iff_eq] at h
  grind
theorem ik_15 {a o x y : ByteArray} {l : List TOp} {t i : ByteArray} (h : isV (15, a, o, x, y, l, t, i) = true) : comB x = true ∧ a = eS ∧ o = eS ∧ y = eS ∧ i = eS ∧ t = eS ∧ l = [] ∧ l.length ≤ 64 ∧ l.all opOK = true := by
  unfold isV at h
  have e2 : formV 15 = (⟨#[104]⟩ : ByteArray) := rfl
  have e5 : isL ((15, a, o, x, y, l, t, i) : TCall) (⟨#[104]⟩ : ByteArray) 1 0 = (mayL (x) 104 && true) := rfl
  have e6 : decide (((⟨#[104]⟩ : ByteArray) : ByteArray) = qS) = false := by decide
  have e7 : ((⟨#[104]⟩ : ByteArray) : ByteArray).size = 1 := rfl
  have e8 : bareB ((15, a, o, x, y, l, t, i) : TCall) (⟨#[104]⟩ : ByteArray) = ((decide (a = eS) || false) && ((decide (o = eS) || (false || false)) && ((decide (x = eS) || true) && ((decide (y = eS) || false) && ((decide (i = eS) || false) && ((decide (t = eS) || false) && ((l.length : Int) == 0 || (15 : Int) == 1))))))) := rfl
  simp only [e2, e6, e7, e5, e8] at h
  simp only [m110, m105, m111, m104, m120, m79, m116, ops_dec, Bool.not_false, Bool.true_and, Bool.and_true, Bool.or_true, Bool.or_false, Bool.true_or, Bool.false_or, Bool.and_assoc, decide_true, beq_self_eq_true] at h
  simp only [Bool.and_eq_true, Bool.or_eq_true, decide_eq_true_eq, Bool.not_eq_true', decide_eq_false_iff_not, beq_iff_eq] at h
  grind
theorem ik_16 {a o x y : ByteArray} {l : List TOp} {t i : ByteArray} (h : isV (16, a, o, x, y, l, t, i) = true) : a = eS ∧ o = eS ∧ x = eS ∧ y = eS ∧ i = eS ∧ t = eS ∧ l = [] ∧ l.length ≤ 64 ∧ l.all opOK = true := by
  unfold isV at h
  have e2 : formV 16 = (⟨#[]⟩ : ByteArray) := rfl
  have e5 : isL ((16, a, o, x, y, l, t, i) : TCall) (⟨#[]⟩ : ByteArray) 0 0 = true := rfl
  have e6 : decide (((⟨#[]⟩ : ByteArray) : ByteArray) = qS) = false := by decide
  have e7 : ((⟨#[]⟩ : ByteArray) : ByteArray).size = 0 := rfl
  have e8 : bareB ((16, a, o, x, y, l, t, i) : TCall) (⟨#[]⟩ : ByteArray) = ((decide (a = eS) || false) && ((decide (o = eS) || (false || false)) && ((decide (x = eS) || false) && ((decide (y = eS) || false) && ((decide (i = eS) || false) && ((decide (t = eS) || false) && ((l.length : Int) == 0 || (16 : Int) == 1))))))) := rfl
  simp only [e2, e6, e7, e5, e8] at h
  simp only [m110, m105, m111, m104, m120, m79, m116, ops_dec, Bool.not_false, Bool.true_and, Bool.and_true, Bool.or_true, Bool.or_false, Bool.true_or, Bool.false_or, Bool.and_assoc, decide_true, beq_self_eq_true] at h
  simp only [Bool.and_eq_true, Bool.or_eq_true, decide_eq_true_eq, Bool.not_eq_true', decide_eq_false_iff_not, beq_iff_eq] at h
  grind
theorem ik_17 {a o x y : ByteArray} {l : List TOp} {t i : ByteArray} (h : isV (17, a, o, x, y, l, t, i) = true) : a = eS ∧ o = eS ∧ x = eS ∧ y = eS ∧ i = eS ∧ t = eS ∧ l = [] ∧ l.length ≤ 64 ∧ l.all opOK = true := by
  unfold isV at h
  have e2 : formV 17 = (⟨#[]⟩ : ByteArray) := rfl
  have e5 : isL ((17, a, o, x, y, l, t, i) : TCall) (⟨#[]⟩ : ByteArray) 0 0 = true := rfl
  have e6 : decide (((⟨#[]⟩ : ByteArray) : ByteArray) = qS) = false := by decide
  have e7 : ((⟨#[]⟩ : ByteArray) : ByteArray).size = 0 := rfl
  have e8 : bareB ((17, a, o, x, y, l, t, i) : TCall) (⟨#[]⟩ : ByteArray) = ((decide (a = eS) || false) && ((decide (o = eS) || (false || false)) && ((decide (x = eS) || false) && ((decide (y = eS) || false) && ((decide (i = eS) || false) && ((decide (t = eS) || false) && ((l.length : Int) == 0 || (17 : Int) == 1))))))) := rfl
  simp only [e2, e6, e7, e5, e8] at h
  simp only [m110, m105, m111, m104, m120, m79, m116, ops_dec, Bool.not_false, Bool.true_and, Bool.and_true, Bool.or_true, Bool.or_false, Bool.true_or, Bool.false_or, Bool.and_assoc, decide_true, beq_self_eq_true] at h
  simp only [Bool.and_eq_true, Bool.or_eq_true, decide_eq_true_eq, Bool.not_eq_true', decide_eq_false_iff_not, beq_iff_eq] at h
  grind
theorem ik_18 {a o x y : ByteArray} {l : List TOp} {t i : ByteArray} (h : isV (18, a, o, x, y, l, t, i) = true) : a = eS ∧ o = eS ∧ x = eS ∧ y = eS ∧ i = eS ∧ t = eS ∧ l = [] ∧ l.length ≤ 64 ∧ l.all opOK = true := by
  unfold isV at h
  have e2 : formV 18 = (⟨#[]⟩ : ByteArray) := rfl
  have e5 : isL ((18, a, o, x, y, l, t, i) : TCall) (⟨#[]⟩ : ByteArray) 0 0 = true := rfl
  have e6 : decide (((⟨#[]⟩ : ByteArray) : ByteArray) = qS) = false := by decide
  have e7 : ((⟨#[]⟩ : ByteArray) : ByteArray).size = 0 := rfl
  have e8 : bareB ((18, a, o, x, y, l, t, i) : TCall) (⟨#[]⟩ : ByteArray) = ((decide (a = eS) || false) && ((decide (o = eS) || (false || false)) && ((decide (x = eS) || false) && ((decide (y = eS) || false) && ((decide (i = eS) || false) && ((decide (t = eS) || false) && ((l.length : Int) == 0 || (18 : Int) == 1))))))) := rfl
  simp only [e2, e6, e7, e5, e8] at h
  simp only [m110, m105, m111, m104, m120, m79, m116, ops_dec, Bool.not_false, Bool.true_and, Bool.and_true, Bool.or_true, Bool.or_false, Bool.true_or, Bool.false_or, Bool.and_assoc, decide_true, beq_self_eq_true] at h
  simp only [Bool.and_eq_true, Bool.or_eq_true, decide_eq_true_eq, Bool.not_eq_true', decide_eq_false_iff_not, beq_iff_eq] at h
  grind
theorem ik_19 {a o x y : ByteArray} {l : List TOp} {t i : ByteArray} (h : isV (19, a, o, x, y, l, t, i) = true) : a = eS ∧ o = eS ∧ x = eS ∧ y = eS ∧ i = eS ∧ t = eS ∧ l = [] ∧ l.length ≤ 64 ∧ l.all opOK = true := by
  unfold isV at h
  have e2 : formV 19 = (⟨#[]⟩ : ByteArray) := rfl
  have e5 : isL ((19, a, o, x, y, l, t, i) : TCall) (⟨#[]⟩ : ByteArray) 0 0 = true := rfl
  have e6 : decide (((⟨#[]⟩ : ByteArray) : ByteArray) = qS) = false := by decide
  have e7 : ((⟨#[]⟩ : ByteArray) : ByteArray).size = 0 := rfl
  have e8 : bareB ((19, a, o, x, y, l, t, i) : TCall) (⟨#[]⟩ : ByteArray) = ((decide (a = eS) || false) && ((decide (o = eS) || (false || false)) && ((decide (x = eS) || false) && ((decide (y = eS) || false) && ((decide (i = eS) || false) && ((decide (t = eS) || false) && ((l.length : Int) == 0 || (19 : Int) == 1))))))) := rfl
  simp only [e2, e6, e7, e5, e8] at h
  simp only [m110, m105, m111, m104, m120, m79, m116, ops_dec, Bool.not_false, Bool.true_and, Bool.and_true, Bool.or_true, Bool.or_false, Bool.true_or, Bool.false_or, Bool.and_assoc, decide_true, beq_self_eq_true] at h
  simp only [Bool.and_eq_true, Bool.or_eq_true, decide_eq_true_eq, Bool.not_eq_true', decide_eq_false_iff_not, beq_iff_eq] at h
  grind
end Go.Proofs.YthbaafcoidjflaaGreatDoor.AE
end
section
set_option linter.unusedVariables false
set_option linter.unusedSimpArgs false
namespace Go.Proofs.YthbaafcoidjflaaGreatDoor.AE
open Go

abbrev sp : ByteArray := ⟨#[32]⟩
abbrev semi : ByteArray := ⟨#[59]⟩
abbrev sep3 : ByteArray := ⟨#[32, 59, 32]⟩
def tailB (sep : ByteArray) : List ByteArray → ByteArray
  | [] => eS
  | y :: r => sep ++ (y ++ tailB sep r)
theorem app_eS (x : ByteArray) : x ++ eS = x := by apply ByteArray.ext; simp
theorem eS_app (x : ByteArray) : eS ++ x = x := by apply ByteArray.ext; simp
theorem tailB_app (sep : ByteArray) : ∀ a b : List ByteArray, tailB sep (a ++ b) = tailB sep a ++ tailB sep b
  | [], b => (eS_app _).symm
  | y :: r, b => by
    show sep ++ (y ++ tailB sep (r ++ b)) = (sep ++ (y ++ tailB sep r)) ++ tailB sep b
    rw [tailB_app sep r b]; simp only [ByteArray.append_assoc]
theorem tailB_data (sep : ByteArray) : ∀ r : List ByteArray, (tailB sep r).data.toList = Lib.joinTail sep.data.toList (r.map (·.data.toList))
  | [] => rfl
  | y :: r => by
    show (sep ++ (y ++ tailB sep r)).data.toList = _
    simp [Lib.joinTail, ByteArray.data_append, tailB_data sep r]
theorem joinB_cons (x : ByteArray) (r : List ByteArray) (sep : ByteArray) : joinB (x :: r) sep = x ++ tailB sep r := by
  apply ByteArray.ext
  unfold joinB
  rw [List.map_cons, Lib.join_cons, ← tailB_data]
  simp [ByteArray.data_append]
theorem tailB_size (sep : ByteArray) (B : Nat) : ∀ r : List ByteArray, (∀ s ∈ r, s.size ≤ B) → (tailB sep r).size ≤ r.length * (sep.size + B)
  | [], _ => by show 0 ≤ _; omega
  | y :: r, h => by
    have h1 := h y List.mem_cons_self
    have h2 := tailB_size sep B r (fun s hs => h s (List.mem_cons_of_mem _ hs))
    show (sep ++ (y ++ tailB sep r)).size ≤ _
    rw [ByteArray.size_append, ByteArray.size_append, List.length_cons, Nat.add_mul]
    omega
theorem Join_ok (l : List ByteArray) (sep : ByteArray) (h : l.length ≤ 140737488355328) (g : (joinB l sep).size ≤ 140737488355328) : V.strings_Join l sep = some (joinB l sep) := by
  apply V.strings_Join.of; unfold F.strings_Join.B joinF
  rw [decide_eq_true h, decide_eq_true g]; rfl

/-! ### Split -/
/-- No part of a text looks like the separator, whatever comes behind. -/
def Free (sep : ByteArray) (x : ByteArray) : Prop := ∃ (j : Nat) (c : UInt8), sep.data.toList[j]? = some c ∧ (∀ i, i < j → sep.data.toList[i]? ≠ some c) ∧ c ∉ x.data.toList
theorem occ_no {sep x : ByteArray} (hf : Free sep x) (y : ByteArray) : (∀ j, j < x.size → Lib.occAt (x ++ (sep ++ y)).data.toList sep.data.toList j = false) ∧ (∀ j, Lib.occAt x.data.toList sep.data.toList j = false) := by
  obtain ⟨p, c, h1, h2, h3⟩ := hf
  have hp := (List.getElem?_eq_some_iff.1 h1).1
  have key : ∀ (s : List UInt8) (j : Nat), Lib.occAt s sep.data.toList j = true → s[j + p]? = some c := fun s j h => by
    unfold Lib.occAt at h
    obtain ⟨t, ht⟩ := List.isPrefixOf_iff_prefix.1 h
    have : (s.drop j)[p]? = some c := by rw [← ht, List.getElem?_append_left hp]; exact h1
    rwa [List.getElem?_drop] at this
  constructor
  · intro j hj
    cases h : Lib.occAt (x ++ (sep ++ y)).data.toList sep.data.toList j with
    | false => rfl
    | true =>
      have := key _ _ h
      have e : (x ++ (sep ++ y)).data.toList = x.data.toList ++ (sep.data.toList ++ y.data.toList) := by simp [ByteArray.data_append]
      have hx : x.data.toList.length = x.size := data_len x
      rw [e] at this
      by_cases g : j + p < x.size
      · rw [List.getElem?_append_left (by omega)] at this
        exact absurd (List.mem_of_getElem? this) h3
      · rw [List.getElem?_append_right (by omega), List.getElem?_append_left (by omega)] at this
        exact absurd this (h2 _ (by omega))
  · intro j
    cases h : Lib.occAt x.data.toList sep.data.toList j with
    | false => rfl
    | true => exact absurd (List.mem_of_getElem? (key _ _ h)) h3
theorem index_app {sep x : ByteArray} (hf : Free sep x) (y : ByteArray) : Lib.indexB (x ++ (sep ++ y)) sep = (x.size : Int) := by
  have h := occ_no hf y
  have hx : x.data.toList.length = x.size := data_len x
  show Lib.index (x ++ (sep ++ y)).data.toList sep.data.toList = _
  have e : (x ++ (sep ++ y)).data.toList = x.data.toList ++ (sep.data.toList ++ y.data.toList) := by simp [ByteArray.data_append]
  refine Lib.index_first (i := x.size) (by rw [e, List.length_append]; omega) ?_ h.1
  unfold Lib.occAt
  rw [e, List.drop_left' hx]
  exact List.isPrefixOf_iff_prefix.2 ⟨_, rfl⟩
theorem index_not {sep x : ByteArray} (hf : Free sep x) : Lib.indexB x sep = -1 := Lib.index_none (fun j _ => (occ_no hf eS).2 j)
theorem ext_hit (x sep y : ByteArray) : (x ++ (sep ++ y)).extract (x.size + sep.size) (x ++ (sep ++ y)).size = y ∧ (x ++ (sep ++ y)).extract 0 (x.size + 0) = x := by
  have hx : x.data.toList.length = x.size := data_len x
  have hs : sep.data.toList.length = sep.size := data_len sep
  have e : (x ++ (sep ++ y)).data.toList = x.data.toList ++ (sep.data.toList ++ y.data.toList) := by simp [ByteArray.data_append]
  constructor
  · apply ByteArray.ext; apply Array.ext'
    rw [Lib.extract_to_end, e, ← List.append_assoc, List.drop_left' (by rw [List.length_append, hx, hs])]
  · apply ByteArray.ext; apply Array.ext'
    rw [Lib.extract_from_zero, e, List.take_left' (by omega)]
theorem split_join (sep : ByteArray) (h1 : 1 ≤ sep.size) : ∀ (r : List ByteArray) (x : ByteArray), (∀ z ∈ x :: r, Free sep z) → splitL (x ++ tailB sep r) sep = x :: r
  | [], x, h => by
    have := index_not (h x List.mem_cons_self)
    rw [show x ++ tailB sep [] = x from app_eS x]
    unfold splitL
    rw [Lib.countB_miss _ _ this]; rfl
  | y :: r, x, h => by
    have hx := index_app (h x List.mem_cons_self) (y ++ tailB sep r)
    have ih := split_join sep h1 r y (fun z hz => h z (List.mem_cons_of_mem _ hz))
    have e := ext_hit x sep (y ++ tailB sep r)
    show splitL (x ++ (sep ++ (y ++ tailB sep r))) sep = _
    unfold splitL at ih ⊢
    rw [Lib.countB_hit _ _ _ h1 hx, e.1, Nat.add_comm, Lib.splitB_hit _ _ _ _ _ hx, e.1, ih, e.2]
theorem split_small (sep : ByteArray) : ∀ (k : Nat) (s z : ByteArray), z ∈ Lib.splitB sep 0 k s → z.size ≤ s.size
  | 0, s, z, h => by simp [Lib.splitB] at h; subst h; exact Nat.le_refl _
  | k + 1, s, z, h => by
    unfold Lib.splitB at h
    split at h
    · simp at h; subst h; exact Nat.le_refl _
    · rcases List.mem_cons.1 h with rfl | h
      · exact extract_size s _ _
      · exact Nat.le_trans (split_small sep k _ z h) (extract_size s _ _)
theorem splitL_small {s sep z : ByteArray} (h : z ∈ splitL s sep) : z.size ≤ s.size := split_small sep _ s z h
theorem splitL_len (s sep : ByteArray) (h1 : 1 ≤ sep.size) : (splitL s sep).length ≤ s.size + 1 ∧ 0 < (splitL s sep).length := by
  have h := Lib.splitB_all sep h1 0 _ s rfl
  have g := Lib.countB_le sep h1 s.size s (Nat.le_refl _)
  unfold splitL
  omega
theorem Split_ok (s sep : ByteArray) (h1 : 1 ≤ sep.size) (hs : s.size ≤ 4294967280) : V.strings_Split s sep = some (splitL s sep) := by
  apply V.strings_Split.of; unfold F.strings_Split.B splitF
  rw [decide_eq_true hs, decide_eq_true h1]; rfl
end Go.Proofs.YthbaafcoidjflaaGreatDoor.AE
end
section
set_option linter.unusedVariables false
set_option linter.unusedSimpArgs false
set_option maxRecDepth 20000
namespace Go.Proofs.YthbaafcoidjflaaGreatDoor.AE
open Go

/-! ### Words without blanks and semicolons -/
def Cl (s : ByteArray) : Prop := 32 ∉ s.data.toList ∧ 59 ∉ s.data.toList
theorem cl_app {a b : ByteArray} (h : Cl a) (g : Cl b) : Cl (a ++ b) := by
  unfold Cl at *
  simp only [ByteArray.data_append, Array.toList_append, List.mem_append]
  exact ⟨fun e => e.elim h.1 g.1, fun e => e.elim h.2 g.2⟩
theorem cl_of {s : ByteArray} (h : ∀ i, i < s.size → byteAt s (i : Int) ≠ 32 ∧ byteAt s (i : Int) ≠ 59) : Cl s := by
  constructor
  · intro hm
    obtain ⟨i, hi, he⟩ := List.mem_iff_getElem.1 hm
    have hi' : i < s.size := by rw [data_len] at hi; exact hi
    have := bt_data s i hi'
    rw [he] at this
    exact (h i hi').1 this
  · intro hm
    obtain ⟨i, hi, he⟩ := List.mem_iff_getElem.1 hm
    have hi' : i < s.size := by rw [data_len] at hi; exact hi
    have := bt_data s i hi'
    rw [he] at this
    exact (h i hi').2 this
theorem okFrom_at (s : ByteArray) : ∀ (d i j : Nat), okFrom s d i = true → i ≤ j → j < i + d → okc (byteAt s (j : Int)) = true
  | 0, i, j, _, h1, h2 => by omega
  | d + 1, i, j, h, h1, h2 => by
    simp only [okFrom, Bool.and_eq_true] at h
    by_cases e : i = j
    · subst e; exact h.1
    · exact okFrom_at s d (i + 1) j h.2 (by omega) (by omega)
theorem cl_name {s : ByteArray} (h : nameB s = true) : Cl s := cl_of fun i hi => by
  unfold nameB at h
  simp only [Bool.and_eq_true] at h
  have := okFrom_at s _ 0 i h.2 (by omega) (by omega)
  generalize byteAt s (i : Int) = c at this
  simp [okc] at this
  omega
theorem cl_dB (n : Nat) : Cl (dB n) := cl_of fun i hi => by have := dB_digit hi; omega
theorem cl_itoa (n : Int) : Cl (itoaS n) := by
  by_cases h : n < 0
  · rw [itoaS_neg h]; exact cl_app (by unfold Cl; decide) (cl_dB _)
  · obtain ⟨m, rfl⟩ := Int.eq_ofNat_of_zero_le (show 0 ≤ n by omega)
    rw [itoaS_pos]; exact cl_dB m
theorem com_name {s : ByteArray} (h : comB s = true) : ∃ n, in64 n ∧ nameC n = s := by
  unfold comB at h
  cases g : progN s with
  | none => rw [g] at h; cases h
  | some n => exact ⟨n, (progN_iff s n).1 g⟩
theorem cl_com {s : ByteArray} (h : comB s = true) : Cl s := by
  obtain ⟨n, _, rfl⟩ := com_name h
  exact cl_app (by unfold Cl; decide) (cl_itoa n)
theorem com_short {s : ByteArray} (h : comB s = true) : s.size ≤ 22 := by
  obtain ⟨n, hn, rfl⟩ := com_name h
  have := itoaS_size hn.1 hn.2
  unfold nameC; rw [one_app]; omega
theorem okF_at (s : ByteArray) : ∀ (d i j : Nat), okF s d i = true → i ≤ j → j < i + d → badI (byteAt s (j : Int)) = false
  | 0, i, j, _, h1, h2 => by omega
  | d + 1, i, j, h, h1, h2 => by
    simp only [okF] at h
    cases hb : badI (byteAt s (i : Int)) with
    | true => rw [hb] at h; cases h
    | false =>
      rw [hb] at h
      by_cases e : i = j
      · subst e; exact hb
      · exact okF_at s d (i + 1) j h (by omega) (by omega)
theorem cl_plain {s : ByteArray} (h : plainB s = true) : Cl s := cl_of fun i hi => by
  have := okF_at s _ 0 i h (by omega) (by omega)
  generalize byteAt s (i : Int) = c at this
  simp [badI] at this
  omega
theorem cl_hex (t : ByteArray) : Cl (hexB t) := cl_of fun j hj => by
  rw [hexB_size] at hj
  have hl : (hexL t t.size 0).length = 2 * t.size := hexL_len t _ _
  have e : byteAt (hexB t) (j : Int) = (hexL t t.size 0).getD j 0 := bt_bytesOf (hexL_bytes t _ _) (by omega)
  have d : ∀ k : Fin 16, byteAt hexD (k : Nat) ≠ 32 ∧ byteAt hexD (k : Nat) ≠ 59 := by decide
  have h := hexL_at t t.size 0 (j / 2) (by omega)
  have hb := bt_range t ((0 + j / 2 : Nat) : Int)
  generalize byteAt t ((0 + j / 2 : Nat) : Int) = b at h hb
  rw [e]
  rcases Nat.mod_two_eq_zero_or_one j with hm | hm
  · have hj2 : j = 2 * (j / 2) := by omega
    rw [hj2, h.1]
    have := d ⟨(b / 16).toNat, by omega⟩
    rwa [show (((b / 16).toNat : Nat) : Int) = b / 16 by omega] at this
  · have hj2 : j = 2 * (j / 2) + 1 := by omega
    rw [hj2, h.2]
    have := d ⟨(b % 16).toNat, by omega⟩
    rwa [show (((b % 16).toNat : Nat) : Int) = b % 16 by omega] at this
theorem cl_show {v : TValue} (h : valueB v = true) : Cl (showB v) := by
  unfold showB
  rw [if_pos h]
  split
  · split <;> (unfold Cl; decide)
  · split
    · exact cl_itoa _
    · split
      · rename_i hp; exact cl_app (by unfold Cl; decide) (cl_plain hp)
      · exact cl_app (by unfold Cl; decide) (cl_hex _)
theorem cl_eS : Cl eS := by unfold Cl; decide
theorem cl_no : Cl noS := by unfold Cl; decide
theorem word_cl (k : Int) : Cl (wordV k) ∧ (wordV k).size ≤ 10 := by
  unfold wordV; split
  · rename_i h
    have : ∀ n : Fin 20, (32 ∉ (rd .str wordsT (n : Nat)).data.toList ∧ 59 ∉ (rd .str wordsT (n : Nat)).data.toList) ∧ (rd .str wordsT (n : Nat)).size ≤ 10 := by decide
    exact this ⟨k.toNat, by omega⟩
  · exact ⟨cl_eS, by decide⟩
theorem sign_cl (k : Int) : Cl (signV k) ∧ (signV k).size ≤ 10 := by
  unfold signV; split
  · rename_i h
    have : ∀ n : Fin 13, (32 ∉ (rd .str signsT (n : Nat)).data.toList ∧ 59 ∉ (rd .str signsT (n : Nat)).data.toList) ∧ (rd .str signsT (n : Nat)).size ≤ 10 := by decide
    exact this ⟨k.toNat, by omega⟩
  · exact ⟨cl_eS, by decide⟩

/-! ### Fields of a call that has a line -/
theorem optV_id {s : ByteArray} (h : s ≠ eS) : optV s = s := if_neg h
theorem name_ne {s : ByteArray} (h : nameB s = true) : s ≠ eS := by rintro rfl; revert h; decide
theorem com_ne {s : ByteArray} (h : comB s = true) : s ≠ eS := by rintro rfl; cases h
def formW (c : TCall) (f : ByteArray) : Nat → Nat → List ByteArray
  | 0, _ => []
  | d + 1, i => optV (fieldL c (byteAt f (i : Int))) :: formW c f d (i + 1)
theorem kind_in {c : TCall} (h : isV c = true) : 1 ≤ c.1 ∧ c.1 ≤ 19 := by
  unfold isV at h
  by_cases g : 1 ≤ c.1 ∧ c.1 ≤ 19
  · exact g
  · rw [show formV c.1 = qS from if_neg g] at h
    simp at h
/-- What holds of names, of commits' names and of the sign for none, holds of all fields. -/
theorem fields_P (c : TCall) (h : isV c = true) (P : ByteArray → Prop) (hn : ∀ s, nameB s = true → P s) (hc : ∀ s, comB s = true → P s) (h0 : P noS) : ∀ w ∈ fieldsV c, P w := by
  have hk := kind_in h
  obtain ⟨k, a, o, x, y, l, t, i⟩ := c
  have hO : ∀ o, (comB o = true ∨ o = eS) → P (optV o) := fun o h => by
    rcases h with h | rfl
    · rw [optV_id (com_ne h)]; exact hc _ h
    · exact h0
  have hT : ∀ t, (t = eS ∨ (nameB t = true ∧ t ≠ noS)) → P (optV t) := fun t h => by
    rcases h with rfl | h
    · exact h0
    · rw [optV_id (name_ne h.1)]; exact hn _ h.1
  have : k = 1 ∨ k = 2 ∨ k = 3 ∨ k = 4 ∨ k = 5 ∨ k = 6 ∨ k = 7 ∨ k = 8 ∨ k = 9 ∨ k = 10 ∨ k = 11 ∨ k = 12 ∨ k = 13 ∨ k = 14 ∨ k = 15 ∨ k = 16 ∨ k = 17 ∨ k = 18 ∨ k = 19 := by simp only at hk; omega
  rcases this with rfl | rfl | rfl | rfl | rfl | rfl | rfl | rfl | rfl | rfl | rfl | rfl | rfl | rfl | rfl | rfl | rfl | rfl | rfl
  · show ∀ w ∈ ([a, optV o, optV t] : List ByteArray), P w
    simp only [List.forall_mem_cons]
    exact ⟨hn _ (ik_1 h).1, hO _ (ik_1 h).2.1, hT _ (ik_1 h).2.2.1, fun _ h => absurd h List.not_mem_nil⟩
  · show ∀ w ∈ ([a, x] : List ByteArray), P w
    simp only [List.forall_mem_cons]
    exact ⟨hn _ (ik_2 h).1, hc _ (ik_2 h).2.1, fun _ h => absurd h List.not_mem_nil⟩
  · show ∀ w ∈ ([a, x] : List ByteArray), P w
    simp only [List.forall_mem_cons]
    exact ⟨hn _ (ik_3 h).1, hc _ (ik_3 h).2.1, fun _ h => absurd h List.not_mem_nil⟩
  · show ∀ w ∈ ([a, o, x] : List ByteArray), P w
    simp only [List.forall_mem_cons]
    exact ⟨hn _ (ik_4 h).1, hc _ (ik_4 h).2.1, hc _ (ik_4 h).2.2.1, fun _ h => absurd h List.not_mem_nil⟩
  · show ∀ w ∈ ([a, o] : List ByteArray), P w
    simp only [List.forall_mem_cons]
    exact ⟨hn _ (ik_5 h).1, hc _ (ik_5 h).2.1, fun _ h => absurd h List.not_mem_nil⟩
  · show ∀ w ∈ ([a, o] : List ByteArray), P w
    simp only [List.forall_mem_cons]
    exact ⟨hn _ (ik_6 h).1, hc _ (ik_6 h).2.1, fun _ h => absurd h List.not_mem_nil⟩
  · show ∀ w ∈ ([x] : List ByteArray), P w
    simp only [List.forall_mem_cons]
    exact ⟨hc _ (ik_7 h).1, fun _ h => absurd h List.not_mem_nil⟩
  · show ∀ w ∈ ([x, i] : List ByteArray), P w
    simp only [List.forall_mem_cons]
    exact ⟨hc _ (ik_8 h).1, hn _ (ik_8 h).2.1, fun _ h => absurd h List.not_mem_nil⟩
  · show ∀ w ∈ ([x, i] : List ByteArray), P w
    simp only [List.forall_mem_cons]
    exact ⟨hc _ (ik_9 h).1, hn _ (ik_9 h).2.1, fun _ h => absurd h List.not_mem_nil⟩
  · show ∀ w ∈ ([x, i] : List ByteArray), P w
    simp only [List.forall_mem_cons]
    exact ⟨hc _ (ik_10 h).1, hn _ (ik_10 h).2.1, fun _ h => absurd h List.not_mem_nil⟩
  · show ∀ w ∈ ([x, i] : List ByteArray), P w
    simp only [List.forall_mem_cons]
    exact ⟨hc _ (ik_11 h).1, hn _ (ik_11 h).2.1, fun _ h => absurd h List.not_mem_nil⟩
  · show ∀ w ∈ ([x, y] : List ByteArray), P w
    simp only [List.forall_mem_cons]
    exact ⟨hc _ (ik_12 h).1, hc _ (ik_12 h).2.1, fun _ h => absurd h List.not_mem_nil⟩
  · show ∀ w ∈ ([a, o, x, optV t] : List ByteArray), P w
    simp only [List.forall_mem_cons]
    exact ⟨hn _ (ik_13 h).1, hc _ (ik_13 h).2.1, hc _ (ik_13 h).2.2.1, hT _ (ik_13 h).2.2.2.1, fun _ h => absurd h List.not_mem_nil⟩
  · show ∀ w ∈ ([x, y] : List ByteArray), P w
    simp only [List.forall_mem_cons]
    exact ⟨hc _ (ik_14 h).1, hc _ (ik_14 h).2.1, fun _ h => absurd h List.not_mem_nil⟩
  · show ∀ w ∈ ([x] : List ByteArray), P w
    simp only [List.forall_mem_cons]
    exact ⟨hc _ (ik_15 h).1, fun _ h => absurd h List.not_mem_nil⟩
  · exact fun _ h => absurd h List.not_mem_nil
  · exact fun _ h => absurd h List.not_mem_nil
  · exact fun _ h => absurd h List.not_mem_nil
  · exact fun _ h => absurd h List.not_mem_nil
theorem form_fields (c : TCall) (h : isV c = true) : formW c (formV c.1) (formV c.1).size 0 = fieldsV c := by
  have hk := kind_in h
  obtain ⟨k, a, o, x, y, l, t, i⟩ := c
  have : k = 1 ∨ k = 2 ∨ k = 3 ∨ k = 4 ∨ k = 5 ∨ k = 6 ∨ k = 7 ∨ k = 8 ∨ k = 9 ∨ k = 10 ∨ k = 11 ∨ k = 12 ∨ k = 13 ∨ k = 14 ∨ k = 15 ∨ k = 16 ∨ k = 17 ∨ k = 18 ∨ k = 19 := by simp only at hk; omega
  rcases this with rfl | rfl | rfl | rfl | rfl | rfl | rfl | rfl | rfl | rfl | rfl | rfl | rfl | rfl | rfl | rfl | rfl | rfl | rfl
  · show ([optV a, optV o, optV t] : List ByteArray) = [a, optV o, optV t]
    rw [optV_id (name_ne (ik_1 h).1)]
  · show ([optV a, optV x] : List ByteArray) = [a, x]
    rw [optV_id (name_ne (ik_2 h).1), optV_id (com_ne (ik_2 h).2.1)]
  · show ([optV a, optV x] : List ByteArray) = [a, x]
    rw [optV_id (name_ne (ik_3 h).1), optV_id (com_ne (ik_3 h).2.1)]
  · show ([optV a, optV o, optV x] : List ByteArray) = [a, o, x]
    rw [optV_id (name_ne (ik_4 h).1), optV_id (com_ne (ik_4 h).2.1), optV_id (com_ne (ik_4 h).2.2.1)]
  · show ([optV a, optV o] : List ByteArray) = [a, o]
    rw [optV_id (name_ne (ik_5 h).1), optV_id (com_ne (ik_5 h).2.1)]
  · show ([optV a, optV o] : List ByteArray) = [a, o]
    rw [optV_id (name_ne (ik_6 h).1), optV_id (com_ne (ik_6 h).2.1)]
  · show ([optV x] : List ByteArray) = [x]
    rw [optV_id (com_ne (ik_7 h).1)]
  · show ([optV x, optV i] : List ByteArray) = [x, i]
    rw [optV_id (com_ne (ik_8 h).1), optV_id (name_ne (ik_8 h).2.1)]
  · show ([optV x, optV i] : List ByteArray) = [x, i]
    rw [optV_id (com_ne (ik_9 h).1), optV_id (name_ne (ik_9 h).2.1)]
  · show ([optV x, optV i] : List ByteArray) = [x, i]
    rw [optV_id (com_ne (ik_10 h).1), optV_id (name_ne (ik_10 h).2.1)]
  · show ([optV x, optV i] : List ByteArray) = [x, i]
    rw [optV_id (com_ne (ik_11 h).1), optV_id (name_ne (ik_11 h).2.1)]
  · show ([optV x, optV y] : List ByteArray) = [x, y]
    rw [optV_id (com_ne (ik_12 h).1), optV_id (com_ne (ik_12 h).2.1)]
  · show ([optV a, optV o, optV x, optV t] : List ByteArray) = [a, o, x, optV t]
    rw [optV_id (name_ne (ik_13 h).1), optV_id (com_ne (ik_13 h).2.1), optV_id (com_ne (ik_13 h).2.2.1)]
  · show ([optV x, optV y] : List ByteArray) = [x, y]
    rw [optV_id (com_ne (ik_14 h).1), optV_id (com_ne (ik_14 h).2.1)]
  · show ([optV x] : List ByteArray) = [x]
    rw [optV_id (com_ne (ik_15 h).1)]
  · rfl
  · rfl
  · rfl
  · rfl
theorem is_ops {c : TCall} (h : isV c = true) : (cOps c).length ≤ 64 ∧ (cOps c).all opOK = true ∧ (c.1 ≠ 1 → cOps c = []) := by
  unfold isV bareB at h
  simp only [Bool.and_eq_true, Bool.or_eq_true, decide_eq_true_eq, Bool.not_eq_true', decide_eq_false_iff_not, beq_iff_eq, ops_dec] at h
  exact ⟨h.2.2.1, h.2.2.2.2, fun g => h.2.1.2.2.2.2.2.2.resolve_right g⟩

/-! ### The line -/
def opW (o : TOp) : List ByteArray := semi :: signV o.1 :: opFieldsV o
def wordsV (c : TCall) : List ByteArray := fieldsV c ++ (cOps c).flatMap opW
def showV (c : TCall) : ByteArray := wordV c.1 ++ tailB sp (wordsV c)
theorem opW_P (o : TOp) (hb : in64 (oVal o).2.1) (h : opOK o = true) : ∀ w ∈ opW o, w.size ≤ 1000 := by
  unfold opOK at h
  simp only [Bool.and_eq_true] at h
  have h1 := right_short o hb h.1 (fun s => s.size ≤ 1000) (fun s h => by have := name_short h; omega) (fun _ => showB_le _ hb)
  have h2 := (sign_cl o.1).2
  intro w hw
  rcases List.mem_cons.1 hw with rfl | hw
  · decide
  · rcases List.mem_cons.1 hw with rfl | hw
    · omega
    · exact h1 w hw
theorem opFields_len (o : TOp) : (opFieldsV o).length ≤ 3 := opFieldsV_len o
theorem opW_len (o : TOp) : (opW o).length ≤ 5 := by have := opFieldsV_len o; simp [opW]; omega
theorem flat_len (l : List TOp) : (l.flatMap opW).length ≤ 5 * l.length := by
  induction l with
  | nil => simp
  | cons o r ih => have := opW_len o; simp only [List.flatMap_cons, List.length_append, List.length_cons]; omega
theorem fields_len (c : TCall) : (fieldsV c).length ≤ 4 := by
  unfold fieldsV fields1 fields2 fields3 fields4 fields5
  (repeat' split) <;> simp
theorem words_P (c : TCall) (hc : okC c) (h : isV c = true) : (wordsV c).length ≤ 324 ∧ ∀ w ∈ wordsV c, w.size ≤ 1000 := by
  obtain ⟨h1, h2, _⟩ := is_ops h
  constructor
  · have := fields_len c
    have := flat_len (cOps c)
    unfold wordsV; rw [List.length_append]; omega
  · intro w hw
    rcases List.mem_append.1 hw with g | g
    · exact fields_P c h (fun s => s.size ≤ 1000) (fun s h => by have := name_short h; omega) (fun s h => by have := com_short h; omega) (by decide) w g
    · obtain ⟨o, ho, g⟩ := List.mem_flatMap.1 g
      exact opW_P o (hc.ops o ho).vn (List.all_eq_true.1 h2 o ho) w g
theorem show_size (c : TCall) (hc : okC c) (h : isV c = true) : (showV c).size ≤ 400000 := by
  obtain ⟨h1, h2⟩ := words_P c hc h
  have := tailB_size sp 1000 _ h2
  have h3 := (word_cl c.1).2
  have hs : sp.size = 1 := rfl
  have : (wordsV c).length * (sp.size + 1000) ≤ 324 * 1001 := by rw [hs]; exact Nat.mul_le_mul_right _ h1
  unfold showV; rw [ByteArray.size_append]; omega
theorem lShow_l (c : TCall) (hc : okC c) (h : isV c = true) : ∀ (d i : Nat) (x : List ByteArray), i + d = (cOps c).length → x.length ≤ 5 + 5 * i → x ++ ((cOps c).drop i).flatMap opW = wordV c.1 :: wordsV c → V.line_Show.l111010 c (i : Int) x = some (showV c, 0)
  | 0, i, x, hd, hx, he => by
    apply V.line_Show.l111010.of; unfold F.line_Show.l111010.B
    rw [List.drop_eq_nil_of_le (by omega), List.flatMap_nil, List.append_nil] at he
    subst he
    have e : joinB (wordV c.1 :: wordsV c) sp = showV c := joinB_cons _ _ _
    have := words_P c hc h
    have := show_size c hc h
    rw [if_out (show (cOps c).length ≤ i by omega), show (⟨#[32]⟩ : ByteArray) = sp from rfl, Join_ok _ _ (by rw [List.length_cons]; omega) (by rw [e]; omega), e]; rfl
  | d + 1, i, x, hd, hx, he => by
    have hi : i < (cOps c).length := by omega
    have hl := (is_ops h).1
    apply V.line_Show.l111010.of; unfold F.line_Show.l111010.B
    have ho : okOp (rd sOp (cOps c) i) := hc.ops _ (rd_mem (e := sOp) hi)
    rw [drop_rd (e := sOp) hi, List.flatMap_cons] at he
    rw [if_in hi, guard_in hi, nat_cast, w64_up hi hc.l]
    generalize rd sOp (cOps c) i = o at ho he ⊢
    have e1 : V.line_opFields (o.1, o.2.1, o.2.2.1, o.2.2.2.1, o.2.2.2.2.1, o.2.2.2.2.2.1, o.2.2.2.2.2.2.1, o.2.2.2.2.2.2.2) = some (opFieldsV o) := opFields_ok o ho.vn
    have hol := opFieldsV_len o
    rw [signs_ok, Option.bind_some, guard_dec (by simp only [List.length_cons, List.length_nil]; unfold nmax; omega), e1, Option.bind_some, guard_dec (by simp only [List.length_append, List.length_cons, List.length_nil]; unfold nmax; omega)]
    refine lShow_l c hc h d (i + 1) _ (by omega) (by simp only [List.length_append, List.length_cons, List.length_nil]; omega) ?_
    rw [← he]
    simp [opW]
theorem lShow_ok (c : TCall) (hc : okC c) : V.line_Show c = some (if isV c then (showV c, 0) else (eS, 2)) := by
  apply V.line_Show.of; unfold F.line_Show.B
  have e1 : V.line_Check (c.1, c.2.1, c.2.2.1, c.2.2.2.1, c.2.2.2.2.1, c.2.2.2.2.2.1, c.2.2.2.2.2.2.1, c.2.2.2.2.2.2.2) = some (if isV c then 0 else 2) := lCheck_ok c hc
  have e2 : V.line_fields (c.1, c.2.1, c.2.2.1, c.2.2.2.1, c.2.2.2.2.1, c.2.2.2.2.2.1, c.2.2.2.2.2.2.1, c.2.2.2.2.2.2.2) = some (fieldsV c) := fields_ok c
  rw [e1, Option.bind_some]
  cases h : isV c with
  | false => rfl
  | true =>
    have hl := fields_len c
    show ((V.line_words c.1).bind _) = _
    rw [words_ok, Option.bind_some, e2]
    simp only [Option.bind_some, meet_self]
    rw [guard_dec (by simp only [List.length_cons, List.length_nil]; unfold nmax; omega)]
    exact lShow_l c hc h (cOps c).length 0 _ (by omega) (by simp; omega) (by simp [wordsV])

/-! ### The document's line -/
theorem rWords_ok : V.pleachref43_words = some (wordsT.drop 1) := V.pleachref43_words.of rfl
theorem rSigns_ok : V.pleachref43_signs = some (signsT.drop 1) := V.pleachref43_signs.of rfl
theorem word_at {k : Int} (h0 : 1 ≤ k) (h1 : k ≤ 19) : rd .str (wordsT.drop 1) (k.toNat - 1) = wordV k := by
  have : ∀ n : Fin 19, rd .str (wordsT.drop 1) (n : Nat) = rd .str wordsT ((n : Nat) + 1) := by decide
  unfold wordV; rw [if_pos ⟨h0, h1⟩, this ⟨k.toNat - 1, by omega⟩]
  show rd .str wordsT (k.toNat - 1 + 1) = _
  rw [show k.toNat - 1 + 1 = k.toNat by omega]
theorem sign_at {k : Int} (h0 : 1 ≤ k) (h1 : k ≤ 12) : rd .str (signsT.drop 1) (k.toNat - 1) = signV k := by
  have : ∀ n : Fin 12, rd .str (signsT.drop 1) (n : Nat) = rd .str signsT ((n : Nat) + 1) := by decide
  unfold signV; rw [if_pos ⟨h0, h1⟩, this ⟨k.toNat - 1, by omega⟩]
  show rd .str signsT (k.toNat - 1 + 1) = _
  rw [show k.toNat - 1 + 1 = k.toNat by omega]
theorem op_has {k : Int} (h0 : 1 ≤ k) (h1 : k ≤ 12) : hasB (opFormV k) 107 = (six k || k == 9 || k == 11) ∧ hasB (opFormV k) 118 = (k == 9 || k == 11) := by
  have e : ∀ n : Fin 12, hasB (opFormV ((n : Nat) + 1 : Nat)) 107 = (six (((n : Nat) + 1 : Nat) : Int) || (((n : Nat) + 1 : Nat) : Int) == 9 || (((n : Nat) + 1 : Nat) : Int) == 11) ∧ hasB (opFormV (((n : Nat) + 1 : Nat) : Int)) 118 = ((((n : Nat) + 1 : Nat) : Int) == 9 || (((n : Nat) + 1 : Nat) : Int) == 11) := by decide
  obtain ⟨e1, e2⟩ := e ⟨k.toNat - 1, by omega⟩
  have he : (((k.toNat - 1 + 1 : Nat)) : Int) = k := by omega
  simp only [he] at e1 e2
  exact ⟨e1, e2⟩
theorem lit3 : (⟨#[32, 59, 32]⟩ : ByteArray) = sp ++ (semi ++ sp) := by decide
end Go.Proofs.YthbaafcoidjflaaGreatDoor.AE
end
section
set_option linter.unusedVariables false
set_option linter.unusedSimpArgs false
set_option maxRecDepth 20000
namespace Go.Proofs.YthbaafcoidjflaaGreatDoor.AE
open Go

theorem small_guard {a b : Nat} (h : a + b ≤ 1000000000) : decide (a + b ≤ i64max) = true := decide_eq_true (by unfold i64max; omega)
theorem opWords_small (o : TOp) (ho : okOp o) (h : opOK o = true) : (tailB sp (opW o)).size ≤ 5005 ∧ ∀ w ∈ opW o, w.size ≤ 1000 := by
  have h1 := opW_P o ho.vn h
  have h2 := tailB_size sp 1000 _ h1
  have h3 := opW_len o
  have hs : sp.size = 1 := rfl
  have : (opW o).length * (sp.size + 1000) ≤ 5 * 1001 := by rw [hs]; exact Nat.mul_le_mul_right _ h3
  exact ⟨by omega, h1⟩
/-- What is shown behind an op's Id. -/
def tail3 (o : TOp) : ByteArray := if o.1 == 3 then sp ++ (o.2.2.1 ++ (sp ++ o.2.2.2.1)) else eS
def tailK (o : TOp) : ByteArray := if (six o.1 || o.1 == 9 || o.1 == 11) then sp ++ oKey o else eS
def tailV (o : TOp) : ByteArray := if (o.1 == 9 || o.1 == 11) then sp ++ showB (oVal o) else eS
theorem op_text (o : TOp) (h : 1 ≤ o.1) (h' : o.1 ≤ 12) : tailB sp (opW o) = ((((⟨#[32, 59, 32]⟩ : ByteArray) ++ (signV o.1 ++ (sp ++ o.2.1))) ++ tail3 o) ++ tailK o) ++ tailV o := by
  obtain ⟨k, i, f, t, y, v⟩ := o
  have hk : k = 1 ∨ k = 2 ∨ k = 3 ∨ k = 4 ∨ k = 5 ∨ k = 6 ∨ k = 7 ∨ k = 8 ∨ k = 9 ∨ k = 10 ∨ k = 11 ∨ k = 12 := by simp only at h h'; omega
  rw [lit3]
  rcases hk with rfl | rfl | rfl | rfl | rfl | rfl | rfl | rfl | rfl | rfl | rfl | rfl <;>
    simp [opW, opFieldsV, tailB, tail3, tailK, tailV, six, ByteArray.append_assoc, app_eS, eS_app]
theorem rShow_v (c : TCall) (o : TOp) (ho : okOp o) (h : 1 ≤ o.1) (h' : o.1 ≤ 12) (x : ByteArray) (i : Int) (l : List ByteArray) (hx : x.size ≤ 900000000) (hv : (showB (oVal o)).size ≤ 1000) : ∀ {r : ByteArray}, V.pleachref43_Show.j11111110100111 c (x ++ tailV o) i l = some r → V.pleachref43_Show.j1111111010011001111 c x i l o.1 o.2.1 o.2.2.1 o.2.2.2.1 (oKey o) (oVal o).1 (oVal o).2.1 (oVal o).2.2 = some r := fun {r} hr => by
  apply V.pleachref43_Show.j1111111010011001111.of; unfold F.pleachref43_Show.j1111111010011001111.B
  have hf : (opFormV o.1).size ≤ 1000 := by have := opFormV_size o.1; omega
  have hs : (⟨#[32]⟩ : ByteArray).size = 1 := rfl
  rw [opForm_ok, Option.bind_some, rhas_ok _ _ hf, Option.bind_some, (op_has h h').2]
  unfold tailV at hr
  cases g : (o.1 == 9 || o.1 == 11) with
  | false =>
    rw [g, if_neg (by decide), app_eS] at hr
    exact hr
  | true =>
    rw [g, if_pos rfl, ← ByteArray.append_assoc] at hr
    rw [cond_true, small_guard (by omega), guard_tt, show V.pleachref06_Show ((oVal o).1, (oVal o).2.1, (oVal o).2.2) = some (showB (oVal o)) from refShow_ok (oVal o) ho.vn, Option.bind_some, small_guard (by rw [ByteArray.size_append]; omega), guard_tt]
    exact hr
theorem rShow_k (c : TCall) (o : TOp) (ho : okOp o) (h : 1 ≤ o.1) (h' : o.1 ≤ 12) (x : ByteArray) (i : Int) (l : List ByteArray) (hx : x.size ≤ 800000000) (hk : (oKey o).size ≤ 1000 ∨ (six o.1 || o.1 == 9 || o.1 == 11) = false) (hv : (showB (oVal o)).size ≤ 1000) : ∀ {r : ByteArray}, V.pleachref43_Show.j11111110100111 c ((x ++ tailK o) ++ tailV o) i l = some r → V.pleachref43_Show.j111111101001100111 c x i l o.1 o.2.1 o.2.2.1 o.2.2.2.1 (oKey o) (oVal o).1 (oVal o).2.1 (oVal o).2.2 = some r := fun {r} hr => by
  apply V.pleachref43_Show.j111111101001100111.of; unfold F.pleachref43_Show.j111111101001100111.B
  have hf : (opFormV o.1).size ≤ 1000 := by have := opFormV_size o.1; omega
  have hs : (⟨#[32]⟩ : ByteArray).size = 1 := rfl
  rw [opForm_ok, Option.bind_some, rhas_ok _ _ hf, Option.bind_some, (op_has h h').1]
  unfold tailK at hr
  cases g : (six o.1 || o.1 == 9 || o.1 == 11) with
  | false =>
    rw [g, if_neg (by decide), app_eS] at hr
    exact rShow_v c o ho h h' x i l (by omega) hv hr
  | true =>
    rw [g, if_pos rfl, ← ByteArray.append_assoc] at hr
    have hk := hk.resolve_right (by rw [g]; decide)
    rw [cond_true, small_guard (by omega), guard_tt, small_guard (by rw [ByteArray.size_append]; omega), guard_tt]
    exact rShow_v c o ho h h' _ i l (by rw [ByteArray.size_append, ByteArray.size_append]; omega) hv hr
theorem rShow_l1 (c : TCall) (hc : okC c) (h : isV c = true) : ∀ (d i : Nat) (x : ByteArray), i + d = (cOps c).length → x.size ≤ 10000 + 5005 * i → V.pleachref43_Show.l1111111010 c x (i : Int) (signsT.drop 1) = some (x ++ tailB sp (((cOps c).drop i).flatMap opW))
  | 0, i, x, hd, hx => by
    apply V.pleachref43_Show.l1111111010.of; unfold F.pleachref43_Show.l1111111010.B
    rw [if_out (show (cOps c).length ≤ i by omega), List.drop_eq_nil_of_le (by omega)]
    exact congrArg some (app_eS x).symm
  | d + 1, i, x, hd, hx => by
    have hi : i < (cOps c).length := by omega
    obtain ⟨hl, hop, _⟩ := is_ops h
    apply V.pleachref43_Show.l1111111010.of; unfold F.pleachref43_Show.l1111111010.B
    have ho : okOp (rd sOp (cOps c) i) := hc.ops _ (rd_mem (e := sOp) hi)
    have hk : opOK (rd sOp (cOps c) i) = true := List.all_eq_true.1 hop _ (rd_mem (e := sOp) hi)
    rw [drop_rd (e := sOp) hi, List.flatMap_cons, tailB_app]
    rw [if_in hi, guard_in hi, nat_cast]
    generalize rd sOp (cOps c) i = o at ho hk ⊢
    have next : V.pleachref43_Show.j11111110100111 c (x ++ tailB sp (opW o)) (i : Int) (signsT.drop 1) = some (x ++ (tailB sp (opW o) ++ tailB sp (((cOps c).drop (i + 1)).flatMap opW))) := by
      apply V.pleachref43_Show.j11111110100111.of; unfold F.pleachref43_Show.j11111110100111.B
      have hs := (opWords_small o ho hk).1
      rw [w64_up hi hc.l, rShow_l1 c hc h d (i + 1) _ (by omega) (by rw [ByteArray.size_append]; omega), ByteArray.append_assoc]
    have hr : rightB o = true := by unfold opOK at hk; simp only [Bool.and_eq_true] at hk; exact hk.1
    obtain ⟨k0, k1, kn⟩ := right_kind hr
    have hw := (opWords_small o ho hk).2
    have hf := right_short o ho.vn hr (fun s => s.size ≤ 1000) (fun s h => by have := name_short h; omega) (fun _ => showB_le _ ho.vn)
    have hid := name_short kn
    have hsg := (sign_cl o.1).2
    have hv := showB_le (oVal o) ho.vn
    have s3 : (⟨#[32, 59, 32]⟩ : ByteArray).size = 3 := rfl
    have s1 : (⟨#[32]⟩ : ByteArray).size = 1 := rfl
    rw [op_text o k0 k1] at next
    have hkey : (oKey o).size ≤ 1000 ∨ (six o.1 || o.1 == 9 || o.1 == 11) = false := by
      cases g : (six o.1 || o.1 == 9 || o.1 == 11) with
      | false => exact .inr rfl
      | true =>
        left
        apply hf
        unfold opFieldsV
        by_cases h3 : (o.1 == 3) = true
        · have : o.1 = 3 := by simpa using h3
          rw [this] at g; exact absurd g (by decide)
        · rw [if_neg h3]
          by_cases h6 : six o.1 = true
          · rw [if_pos h6]; simp
          · rw [if_neg h6]
            have : (o.1 == 9 || o.1 == 11) = true := by
              revert g h6
              cases six o.1 <;> simp
            rw [if_pos this]; simp
    rw [small_guard (by omega), guard_tt, dn_nat k0 (by omega), nat_cast, guard_in (show o.1.toNat - 1 < (signsT.drop 1).length by show _ < 12; omega), sign_at k0 k1]
    rw [small_guard (by rw [ByteArray.size_append]; omega), guard_tt, small_guard (by simp only [ByteArray.size_append]; omega), guard_tt, small_guard (by simp only [ByteArray.size_append]; omega), guard_tt]
    have e : ((((x ++ (⟨#[32, 59, 32]⟩ : ByteArray)) ++ signV o.1) ++ (⟨#[32]⟩ : ByteArray)) ++ o.2.1) = x ++ ((⟨#[32, 59, 32]⟩ : ByteArray) ++ (signV o.1 ++ (sp ++ o.2.1))) := by simp only [ByteArray.append_assoc]
    have hsz : (x ++ ((⟨#[32, 59, 32]⟩ : ByteArray) ++ (signV o.1 ++ (sp ++ o.2.1)))).size ≤ 500000000 := by
      have : sp.size = 1 := rfl
      simp only [ByteArray.size_append]; omega
    cases g : (o.1 == 3) with
    | false =>
      rw [cond_false]
      refine rShow_k c o ho k0 k1 _ _ _ (by rw [e]; omega) hkey hv ?_
      rw [e, op_text o k0 k1, ← next]
      unfold tail3
      rw [g, if_neg (by decide), app_eS]
      simp only [ByteArray.append_assoc]
    | true =>
      have ef : opFieldsV o = [o.2.1, o.2.2.1, o.2.2.2.1] := by unfold opFieldsV; rw [if_pos g]
      have h2 := hf o.2.2.1 (by rw [ef]; simp)
      have h3 := hf o.2.2.2.1 (by rw [ef]; simp)
      rw [cond_true, e]
      rw [small_guard (by omega), guard_tt, small_guard (by rw [ByteArray.size_append]; omega), guard_tt, small_guard (by simp only [ByteArray.size_append] at hsz ⊢; omega), guard_tt, small_guard (by simp only [ByteArray.size_append] at hsz ⊢; omega), guard_tt]
      refine rShow_k c o ho k0 k1 _ _ _ (by simp only [ByteArray.size_append] at hsz ⊢; omega) hkey hv ?_
      rw [op_text o k0 k1, ← next]
      unfold tail3
      rw [g, if_pos rfl]
      simp only [ByteArray.append_assoc]
theorem formW_cons (c : TCall) (f : ByteArray) (d i : Nat) : formW c f (d + 1) i = optV (fieldL c (byteAt f (i : Int))) :: formW c f d (i + 1) := rfl
theorem rShow_l0 (c : TCall) (hc : okC c) (h : isV c = true) (f : ByteArray) (hf : f.size ≤ 4) : ∀ (d i : Nat) (x : ByteArray), i + d = f.size → x.size ≤ 100 + 1001 * i → (∀ w ∈ formW c f d i, w.size ≤ 1000) → V.pleachref43_Show.l11111010 c x f (i : Int) = some (x ++ tailB sp (formW c f d i ++ (cOps c).flatMap opW))
  | 0, i, x, hd, hx, hw => by
    apply V.pleachref43_Show.l11111010.of; unfold F.pleachref43_Show.l11111010.B
    rw [if_out (by omega), rSigns_ok, Option.bind_some]
    exact rShow_l1 c hc h (cOps c).length 0 x (by omega) (by omega)
  | d + 1, i, x, hd, hx, hw => by
    have hi : i < f.size := by omega
    have s1 : (⟨#[32]⟩ : ByteArray).size = 1 := rfl
    apply V.pleachref43_Show.l11111010.of; unfold F.pleachref43_Show.l11111010.B
    rw [if_in hi, guard_in hi]
    rw [show V.pleachref43_field (c.1, c.2.1, c.2.2.1, c.2.2.2.1, c.2.2.2.2.1, c.2.2.2.2.2.1, c.2.2.2.2.2.2.1, c.2.2.2.2.2.2.2) (byteAt f (i : Int)) = some (fieldL c (byteAt f (i : Int))) from field_ok c _, Option.bind_some, strEq_dec]
    rw [formW_cons] at hw ⊢
    have h1 := hw _ List.mem_cons_self
    have ih := fun x hx => rShow_l0 c hc h f hf d (i + 1) x (by omega) hx (fun w hw' => hw w (List.mem_cons_of_mem _ hw'))
    have key : ∀ w, w.size ≤ 1000 → V.pleachref43_Show.j11111010010011 c x f (i : Int) w = some (x ++ tailB sp ((w :: formW c f d (i + 1)) ++ (cOps c).flatMap opW)) := fun w hw => by
      apply V.pleachref43_Show.j11111010010011.of; unfold F.pleachref43_Show.j11111010010011.B
      rw [small_guard (by omega), guard_tt, small_guard (by rw [ByteArray.size_append]; omega), guard_tt]
      apply V.pleachref43_Show.j11111010011.of; unfold F.pleachref43_Show.j11111010011.B
      rw [w64_up hi (by omega), ih _ (by simp only [ByteArray.size_append]; omega)]
      show some _ = some (x ++ (sp ++ (w ++ tailB sp _)))
      simp only [ByteArray.append_assoc]
      rfl
    unfold optV at h1 ⊢
    by_cases he : fieldL c (byteAt f (i : Int)) = eS
    · rw [if_pos he] at h1 ⊢
      rw [if_yes he]
      exact key _ h1
    · rw [if_neg he] at h1 ⊢
      rw [if_no he]
      exact key _ h1
theorem lrShow_ok (c : TCall) (hc : okC c) : V.pleachref43_Show c = some (if isV c then showV c else eS) := by
  apply V.pleachref43_Show.of; unfold F.pleachref43_Show.B
  have e1 : V.pleachref43_Is (c.1, c.2.1, c.2.2.1, c.2.2.2.1, c.2.2.2.2.1, c.2.2.2.2.2.1, c.2.2.2.2.2.2.1, c.2.2.2.2.2.2.2) = some (isV c) := rIs_ok c hc
  rw [e1, Option.bind_some]
  cases h : isV c with
  | false => rfl
  | true =>
    obtain ⟨k0, k1⟩ := kind_in h
    have hf := form_fields c h
    have hw := (word_cl c.1).2
    rw [Bool.not_true, cond_false, rWords_ok, Option.bind_some, dn_nat k0 (by omega), nat_cast, guard_in (show c.1.toNat - 1 < (wordsT.drop 1).length by show _ < 19; omega), form_ok, Option.bind_some, word_at k0 k1]
    have := rShow_l0 c hc h (formV c.1) (formV_size c.1) (formV c.1).size 0 (wordV c.1) (by omega) (by omega) (by rw [hf]; exact fun w hw => (words_P c hc h).2 w (List.mem_append_left _ hw))
    rw [hf] at this
    exact this
end Go.Proofs.YthbaafcoidjflaaGreatDoor.AE
end
section
set_option linter.unusedVariables false
set_option linter.unusedSimpArgs false
namespace Go.Proofs.YthbaafcoidjflaaGreatDoor.AE
open Go
end Go.Proofs.YthbaafcoidjflaaGreatDoor.AE
end
section
set_option linter.unusedVariables false
set_option linter.unusedSimpArgs false
set_option maxRecDepth 20000
namespace Go.Proofs.YthbaafcoidjflaaGreatDoor.AE
open Go

def kf (tab : Int → ByteArray) (a : ByteArray) : Nat → Nat → Int
  | 0, _ => 0
  | d + 1, k => if tab (k : Int) = a then (k : Int) else kf tab a d (k + 1)
def kindW (a : ByteArray) : Int := kf wordV a 19 1
def kindS (a : ByteArray) : Int := kf signV a 12 1
theorem kindW_l (a : ByteArray) : ∀ d k : Nat, k + d = 20 → 1 ≤ k → V.line_kind_by_line_words.l1010 a (k : Int) = some (kf wordV a d k)
  | 0, k, h, h1 => by
    apply V.line_kind_by_line_words.l1010.of; unfold F.line_kind_by_line_words.l1010.B
    obtain rfl : k = 20 := by omega
    rw [words_ok, Option.bind_some, show wordV ((20 : Nat) : Int) = eS by decide, strEq_self]; rfl
  | d + 1, k, h, h1 => by
    apply V.line_kind_by_line_words.l1010.of; unfold F.line_kind_by_line_words.l1010.B
    have hn : wordV (k : Int) ≠ eS := by
      have : ∀ n : Fin 19, wordV (((n : Nat) + 1 : Nat) : Int) ≠ eS := by decide
      have := this ⟨k - 1, by omega⟩
      rwa [show k - 1 + 1 = k by omega] at this
    rw [words_ok, Option.bind_some, strEq_no hn, Bool.not_false, cond_true, Option.bind_some, strEq_dec, w64_up (show k < 30 by omega) (by omega), kindW_l a d (k + 1) (by omega) (by omega)]
    unfold kf
    by_cases g : wordV (k : Int) = a
    · rw [if_yes g, if_pos g]
    · rw [if_no g, if_neg g]; cases d <;> rfl
theorem kindW_ok (a : ByteArray) : V.line_kind_by_line_words a = some (kindW a) := by
  apply V.line_kind_by_line_words.of; unfold F.line_kind_by_line_words.B
  exact kindW_l a 19 1 (by omega) (by omega)
theorem kindS_l (a : ByteArray) : ∀ d k : Nat, k + d = 13 → 1 ≤ k → V.line_kind_by_line_signs.l1010 a (k : Int) = some (kf signV a d k)
  | 0, k, h, h1 => by
    apply V.line_kind_by_line_signs.l1010.of; unfold F.line_kind_by_line_signs.l1010.B
    obtain rfl : k = 13 := by omega
    rw [signs_ok, Option.bind_some, show signV ((13 : Nat) : Int) = eS by decide, strEq_self]; rfl
  | d + 1, k, h, h1 => by
    apply V.line_kind_by_line_signs.l1010.of; unfold F.line_kind_by_line_signs.l1010.B
    have hn : signV (k : Int) ≠ eS := by
      have : ∀ n : Fin 12, signV (((n : Nat) + 1 : Nat) : Int) ≠ eS := by decide
      have := this ⟨k - 1, by omega⟩
      rwa [show k - 1 + 1 = k by omega] at this
    rw [signs_ok, Option.bind_some, strEq_no hn, Bool.not_false, cond_true, Option.bind_some, strEq_dec, w64_up (show k < 30 by omega) (by omega), kindS_l a d (k + 1) (by omega) (by omega)]
    unfold kf
    by_cases g : signV (k : Int) = a
    · rw [if_yes g, if_pos g]
    · rw [if_no g, if_neg g]; cases d <;> rfl
theorem kindS_ok (a : ByteArray) : V.line_kind_by_line_signs a = some (kindS a) := by
  apply V.line_kind_by_line_signs.of; unfold F.line_kind_by_line_signs.B
  exact kindS_l a 12 1 (by omega) (by omega)
theorem kindW_word {k : Int} (h0 : 1 ≤ k) (h1 : k ≤ 19) : kindW (wordV k) = k := by
  have : ∀ n : Fin 19, kindW (wordV (((n : Nat) + 1 : Nat) : Int)) = (((n : Nat) + 1 : Nat) : Int) := by decide
  have := this ⟨k.toNat - 1, by omega⟩
  rwa [show ((((k.toNat - 1) + 1 : Nat)) : Int) = k by omega] at this
theorem kindS_sign {k : Int} (h0 : 1 ≤ k) (h1 : k ≤ 12) : kindS (signV k) = k := by
  have : ∀ n : Fin 12, kindS (signV (((n : Nat) + 1 : Nat) : Int)) = (((n : Nat) + 1 : Nat) : Int) := by decide
  have := this ⟨k.toNat - 1, by omega⟩
  rwa [show ((((k.toNat - 1) + 1 : Nat)) : Int) = k by omega] at this

/-! ### What a line is read as -/
abbrev zC : TCall := (0, eS, eS, eS, eS, [], eS, eS)
abbrev setOps (c : TCall) (l : List TOp) : TCall := (c.1, c.2.1, c.2.2.1, c.2.2.2.1, c.2.2.2.2.1, l, c.2.2.2.2.2.2.1, c.2.2.2.2.2.2.2)
noncomputable def pieceV (p : ByteArray) : TOp × Bool := opV (kindS (at_ (splitL p sp) 0)) ((splitL p sp).drop 1)
noncomputable def headV (s : ByteArray) : TCall × Bool := callV (kindW (at_ (splitL (at_ (splitL s sep3) 0) sp) 0)) ((splitL (at_ (splitL s sep3) 0) sp).drop 1)
noncomputable def rawV (s : ByteArray) : TCall := setOps (headV s).1 ((((splitL s sep3).drop 1).map pieceV).map (·.1))
noncomputable def rawB (s : ByteArray) : Bool := (headV s).2 && (((splitL s sep3).drop 1).map pieceV).all (·.2)
open Classical in
noncomputable def finV (s : ByteArray) (b : Bool) (c : TCall) : TCall × Int := if b = true ∧ isV c = true ∧ showV c = s then (c, 0) else (zC, 17)
structure smC (c : TCall) : Prop where
  n : (cName c).size ≤ 400000
  o : (cOld c).size ≤ 400000
  h : (cHash c).size ≤ 400000
  x : (cOther c).size ≤ 400000
  t : (cNote c).size ≤ 400000
  i : (cId c).size ≤ 400000
theorem sm_mk {k : Int} {n o h x t i : ByteArray} (h1 : n.size ≤ 400000) (h2 : o.size ≤ 400000) (h3 : h.size ≤ 400000) (h4 : x.size ≤ 400000) (h5 : t.size ≤ 400000) (h6 : i.size ≤ 400000) : smC (mk k n o h x t i).1 := ⟨h1, h2, h3, h4, h5, h6⟩
theorem free_le {s : ByteArray} {B : Nat} (h : s.size ≤ B) : (freeV s).size ≤ B := by unfold freeV; split; exact eS_le _; exact h
theorem sm_call (k : Int) (f : List ByteArray) (hs : ∀ s ∈ f, s.size ≤ 400000) : smC (callV k f).1 := by
  have a := fun i => atl_le hs i
  have fr := fun i => free_le (a i)
  have z := eS_le 400000
  unfold callV call1 call2 call3 call4 call5
  split
  · exact ⟨z, z, z, z, z, z⟩
  · (repeat' split) <;> exact sm_mk (by first | exact z | exact a _) (by first | exact z | exact a _ | exact fr _) (by first | exact z | exact a _) (by first | exact z | exact a _) (by first | exact z | exact fr _) (by first | exact z | exact a _)
theorem ok_op (k : Int) (f : List ByteArray) (hs : ∀ s ∈ f, s.size ≤ 400000) : okOp (opV k f).1 := by
  have a := fun i => Nat.le_trans (atl_le hs i) (show 400000 ≤ 140737488351232 by omega)
  have z := eS_le 140737488351232
  have z6 : in64 (0 : Int) := by unfold in64; omega
  unfold opV
  split
  · exact ⟨z, z, z, z, z, z6⟩
  split
  · exact ⟨z, z, z, z, z, z6⟩
  split
  · exact ⟨a _, a _, a _, z, z, z6⟩
  split
  · split
    · rename_i v hv
      obtain ⟨v1, v2, v3⟩ := parse_sound (by have := atl_le hs 2; omega) hv
      exact ⟨a _, z, z, a _, by have := (value_kind v1).2; show v.2.2.size ≤ _; omega, v2⟩
    · exact ⟨z, z, z, z, z, z6⟩
  split
  · exact ⟨a _, z, z, a _, z, z6⟩
  · exact ⟨a _, z, z, z, z, z6⟩
theorem split_le {s sep : ByteArray} {B : Nat} (hs : s.size ≤ B) : ∀ z ∈ splitL s sep, z.size ≤ B := fun z hz => Nat.le_trans (splitL_small hz) hs
theorem drop_le {l : List ByteArray} {B k : Nat} (h : ∀ z ∈ l, z.size ≤ B) : ∀ z ∈ l.drop k, z.size ≤ B := fun z hz => h z (List.mem_of_mem_drop hz)
theorem ok_piece (p : ByteArray) (hp : p.size ≤ 400000) : okOp (pieceV p).1 := ok_op _ _ (drop_le (split_le hp))
theorem ok_set {c : TCall} (h : smC c) {l : List TOp} (hl : l.length ≤ 1000000) (ho : ∀ o ∈ l, okOp o) : okC (setOps c l) := ⟨by have := h.n; show (cName c).size ≤ _; omega, by have := h.o; show (cOld c).size ≤ _; omega, by have := h.h; show (cHash c).size ≤ _; omega, by have := h.x; show (cOther c).size ≤ _; omega, by have := h.t; show (cNote c).size ≤ _; omega, by have := h.i; show (cId c).size ≤ _; omega, by show l.length ≤ _; omega, ho⟩
theorem Parse_end (s : ByteArray) (b : Bool) (c : TCall) (hc : okC c) : (bif (!b) then (some (zC, (17 : Int))) else ((V.line_Show (c.1, c.2.1, c.2.2.1, c.2.2.2.1, c.2.2.2.2.1, c.2.2.2.2.2.1, c.2.2.2.2.2.2.1, c.2.2.2.2.2.2.2)).bind fun t17 => (bif (t17.2 != 0) then (V.line_Parse.j111111011 s true c.1 c.2.1 c.2.2.1 c.2.2.2.1 c.2.2.2.2.1 c.2.2.2.2.2.2.1 c.2.2.2.2.2.2.2 c.2.2.2.2.2.1) else (V.line_Parse.j111111011 s (!strEq t17.1 s) c.1 c.2.1 c.2.2.1 c.2.2.2.1 c.2.2.2.2.1 c.2.2.2.2.2.2.1 c.2.2.2.2.2.2.2 c.2.2.2.2.2.1)))) = some (finV s b c) := by
  have J : ∀ x, V.line_Parse.j111111011 s x c.1 c.2.1 c.2.2.1 c.2.2.2.1 c.2.2.2.2.1 c.2.2.2.2.2.2.1 c.2.2.2.2.2.2.2 c.2.2.2.2.2.1 = some (if x then (zC, 17) else (c, 0)) := fun x => by
    apply V.line_Parse.j111111011.of; unfold F.line_Parse.j111111011.B
    cases x <;> rfl
  have hS : V.line_Show (c.1, c.2.1, c.2.2.1, c.2.2.2.1, c.2.2.2.2.1, c.2.2.2.2.2.1, c.2.2.2.2.2.2.1, c.2.2.2.2.2.2.2) = some (if isV c then (showV c, 0) else (eS, 2)) := lShow_ok c hc
  rw [hS]
  simp only [J, Option.bind_some]
  unfold finV
  cases b with
  | false => simp
  | true =>
    cases h : isV c with
    | false => simp
    | true =>
      simp only [strEq_dec]
      by_cases g : showV c = s
      · simp [g]
      · simp [g]
theorem take_all (l : List ByteArray) : (l.take ((l.length : Int).toNat)).drop 1 = l.drop 1 := by rw [nat_cast, List.take_length]
theorem len_guard {α : Type} {n : Nat} {a : Option α} (h : 0 < n) : guardK (decide (1 ≤ (n : Int)) && decide ((n : Int) ≤ (n : Int))) a = a := guard_of (by rw [Bool.and_eq_true]; exact ⟨decide_eq_true (by omega), decide_eq_true (by omega)⟩)
theorem lParse_l (s : ByteArray) (hs : s.size ≤ 400000) (l : List ByteArray) (hl : l.length ≤ 400001) (hz : ∀ z ∈ l, z.size ≤ 400000) (h : TCall) (hh : smC h) : ∀ (d i : Nat) (b : Bool) (acc : List TOp), 1 + i + d = l.length → acc.length = i → (∀ o ∈ acc, okOp o) →
    V.line_Parse.l1111010 s b l.length ((l.length - 1 : Nat) : Int) (i : Int) h.1 h.2.1 h.2.2.1 h.2.2.2.1 h.2.2.2.2.1 h.2.2.2.2.2.2.1 h.2.2.2.2.2.2.2 l acc = some (finV s (b && ((l.drop (1 + i)).map pieceV).all (·.2)) (setOps h (acc ++ ((l.drop (1 + i)).map pieceV).map (·.1))))
  | 0, i, b, acc, hd, ha, ho => by
    apply V.line_Parse.l1111010.of; unfold F.line_Parse.l1111010.B
    rw [if_out (by omega), List.drop_eq_nil_of_le (by omega)]
    have := Parse_end s b (setOps h acc) (ok_set hh (by omega) ho)
    simp only [List.map_nil, List.all_nil, Bool.and_true, List.append_nil]
    exact this
  | d + 1, i, b, acc, hd, ha, ho => by
    have hi : 1 + i < l.length := by omega
    apply V.line_Parse.l1111010.of; unfold F.line_Parse.l1111010.B
    have hp : (rd .str l (1 + i)).size ≤ 400000 := hz _ (rd_mem (e := .str) hi)
    have hn := splitL_len (rd .str l (1 + i)) sp (by decide)
    rw [if_in (show i < l.length - 1 by omega), guard_of (by simp; omega), nat_cast, show (⟨#[32]⟩ : ByteArray) = sp from rfl, Split_ok _ _ (by decide) (by omega), Option.bind_some, guard_dec (by omega), len_guard (by omega), take_all]
    have hop := op_ok (kindS (rd .str (splitL (rd .str l (1 + i)) sp) 0)) ((splitL (rd .str l (1 + i)) sp).drop 1) (by rw [List.length_drop]; omega) (fun z hz' => by have := drop_le (split_le hp) z hz'; omega)
    simp only [kindS_ok, Option.bind_some, hop, meet_self]
    rw [drop_rd (e := .str) hi, List.map_cons, List.all_cons, List.map_cons]
    have hpv : opV (kindS (rd .str (splitL (rd .str l (1 + i)) sp) 0)) ((splitL (rd .str l (1 + i)) sp).drop 1) = pieceV (rd .str l (1 + i)) := rfl
    have hok := ok_piece _ hp
    rw [hpv]
    generalize pieceV (rd .str l (1 + i)) = o at hok ⊢
    apply V.line_Parse.j111101001100111.of; unfold F.line_Parse.j111101001100111.B
    rw [guard_dec (by simp only [List.length_cons, List.length_nil]; unfold nmax; omega)]
    have next : ∀ b, V.line_Parse.j11110100111 s b l.length ((l.length - 1 : Nat) : Int) (i : Int) h.1 h.2.1 h.2.2.1 h.2.2.2.1 h.2.2.2.2.1 h.2.2.2.2.2.2.1 h.2.2.2.2.2.2.2 l (acc ++ [o.1]) = some (finV s (b && ((l.drop (1 + i + 1)).map pieceV).all (·.2)) (setOps h (acc ++ (o.1 :: ((l.drop (1 + i + 1)).map pieceV).map (·.1))))) := fun b => by
      apply V.line_Parse.j11110100111.of; unfold F.line_Parse.j11110100111.B
      rw [w64_up (show i < 500000 by omega) (by omega), lParse_l s hs l hl hz h hh d (i + 1) b (acc ++ [o.1]) (by omega) (by simp; omega) (by
        intro q hq
        rcases List.mem_append.1 hq with g | g
        · exact ho q g
        · simp at g; subst g; exact hok)]
      rw [List.append_assoc]; rfl
    cases b with
    | false =>
      rw [cond_false]
      refine (next false).trans ?_
      simp only [Bool.false_and]
    | true =>
      rw [cond_true]
      refine (next o.2).trans ?_
      simp only [Bool.true_and]
theorem lParse_ok (s : ByteArray) (hs : s.size ≤ 400000) : V.line_Parse s = some (finV s (rawB s) (rawV s)) := by
  apply V.line_Parse.of; unfold F.line_Parse.B
  have h0 := splitL_len s sep3 (by decide)
  have hz := split_le (sep := sep3) hs
  have h1 : (rd .str (splitL s sep3) 0).size ≤ 400000 := hz _ (rd_mem (e := .str) h0.2)
  have h2 := splitL_len (rd .str (splitL s sep3) 0) sp (by decide)
  rw [show (⟨#[32, 59, 32]⟩ : ByteArray) = sep3 from rfl, Split_ok _ _ (by decide) (by omega), Option.bind_some, guard_dec (by omega), show (⟨#[32]⟩ : ByteArray) = sp from rfl, Split_ok _ _ (by decide) (by omega), Option.bind_some, guard_dec (by omega), len_guard (by omega), take_all]
  have hcl := call_ok (kindW (rd .str (splitL (rd .str (splitL s sep3) 0) sp) 0)) ((splitL (rd .str (splitL s sep3) 0) sp).drop 1) (by rw [List.length_drop]; omega)
  simp only [kindW_ok, Option.bind_some, hcl, meet_self]
  have hpv : callV (kindW (rd .str (splitL (rd .str (splitL s sep3) 0) sp) 0)) ((splitL (rd .str (splitL s sep3) 0) sp).drop 1) = headV s := rfl
  have hsm : smC (headV s).1 := sm_call _ _ (drop_le (split_le h1))
  have hops : cOps (headV s).1 = [] := callV_len _ _
  rw [hpv]
  apply V.line_Parse.j1111.of; unfold F.line_Parse.j1111.B
  rw [len_guard (by omega), nat_cast]
  have := lParse_l s hs (splitL s sep3) (by omega) hz (headV s).1 hsm ((splitL s sep3).length - 1) 0 (headV s).2 [] (by omega) rfl (fun _ h => absurd h List.not_mem_nil)
  rw [show (headV s).1.2.2.2.2.2.1 = [] from hops]
  exact this
end Go.Proofs.YthbaafcoidjflaaGreatDoor.AE
end
section
set_option linter.unusedVariables false
set_option linter.unusedSimpArgs false
set_option maxRecDepth 20000
namespace Go.Proofs.YthbaafcoidjflaaGreatDoor.AE
open Go

theorem free_sp {x : ByteArray} (h : Cl x) : Free sp x := ⟨0, 32, rfl, fun i hi => absurd hi (Nat.not_lt_zero _), h.1⟩
theorem free_sep3 {x : ByteArray} (h : 59 ∉ x.data.toList) : Free sep3 x := ⟨1, 59, rfl, fun i hi => by
  obtain rfl : i = 0 := by omega
  decide, h⟩
theorem semi_tail : ∀ r : List ByteArray, (∀ z ∈ r, Cl z) → 59 ∉ (tailB sp r).data.toList
  | [], _ => by decide
  | y :: r, h => by
    show 59 ∉ (sp ++ (y ++ tailB sp r)).data.toList
    have h1 := (h y List.mem_cons_self).2
    have h2 := semi_tail r (fun z hz => h z (List.mem_cons_of_mem _ hz))
    simp only [ByteArray.data_append, Array.toList_append, List.mem_append]
    rintro (g | g | g)
    · revert g; decide
    · exact h1 g
    · exact h2 g
theorem semi_line {x : ByteArray} {r : List ByteArray} (hx : Cl x) (h : ∀ z ∈ r, Cl z) : 59 ∉ (x ++ tailB sp r).data.toList := by
  simp only [ByteArray.data_append, Array.toList_append, List.mem_append]
  exact fun g => g.elim hx.2 (semi_tail r h)
def line0 (c : TCall) : ByteArray := wordV c.1 ++ tailB sp (fieldsV c)
def opL (o : TOp) : ByteArray := signV o.1 ++ tailB sp (opFieldsV o)
theorem flat_tail : ∀ l : List TOp, tailB sp (l.flatMap opW) = tailB sep3 (l.map opL)
  | [] => rfl
  | o :: r => by
    rw [List.flatMap_cons, tailB_app, flat_tail r, List.map_cons]
    show (sp ++ (semi ++ (sp ++ (signV o.1 ++ tailB sp (opFieldsV o))))) ++ tailB sep3 (r.map opL) = sep3 ++ ((signV o.1 ++ tailB sp (opFieldsV o)) ++ tailB sep3 (r.map opL))
    rw [show sep3 = sp ++ (semi ++ sp) from lit3]
    simp only [ByteArray.append_assoc]
theorem show_parts (c : TCall) : showV c = line0 c ++ tailB sep3 ((cOps c).map opL) := by
  unfold showV wordsV line0
  rw [tailB_app, flat_tail, ByteArray.append_assoc]
theorem fields_cl {c : TCall} (h : isV c = true) : ∀ w ∈ fieldsV c, Cl w := fields_P c h Cl (fun _ h => cl_name h) (fun _ h => cl_com h) cl_no
theorem opFields_cl {o : TOp} (hb : in64 (oVal o).2.1) (h : opOK o = true) : ∀ w ∈ opFieldsV o, Cl w := right_short o hb (by unfold opOK at h; simp only [Bool.and_eq_true] at h; exact h.1) Cl (fun _ h => cl_name h) (fun h => cl_show h)
theorem line_pieces {c : TCall} (hc : okC c) (h : isV c = true) : splitL (showV c) sep3 = line0 c :: (cOps c).map opL := by
  rw [show_parts]
  refine split_join sep3 (by decide) _ _ (fun z hz => free_sep3 ?_)
  rcases List.mem_cons.1 hz with rfl | hz
  · exact semi_line (word_cl _).1 (fields_cl h)
  · obtain ⟨o, ho, rfl⟩ := List.mem_map.1 hz
    exact semi_line (sign_cl _).1 (opFields_cl (hc.ops o ho).vn (List.all_eq_true.1 (is_ops h).2.1 o ho))
theorem line0_words {c : TCall} (h : isV c = true) : splitL (line0 c) sp = wordV c.1 :: fieldsV c := split_join sp (by decide) _ _ (fun z hz => free_sp (by
  rcases List.mem_cons.1 hz with rfl | hz
  · exact (word_cl _).1
  · exact fields_cl h z hz))
theorem opL_words {o : TOp} (hb : in64 (oVal o).2.1) (h : opOK o = true) : splitL (opL o) sp = signV o.1 :: opFieldsV o := split_join sp (by decide) _ _ (fun z hz => free_sp (by
  rcases List.mem_cons.1 hz with rfl | hz
  · exact (sign_cl _).1
  · exact opFields_cl hb h z hz))
theorem opV_two (k : Int) (f : List ByteArray) : (opV k f).1 = zOp ∨ (opV k f).2 = rightB (opV k f).1 := by
  unfold opV
  split
  · exact .inl rfl
  split
  · exact .inl rfl
  split
  · exact .inr rfl
  split
  · split
    · exact .inr rfl
    · exact .inl rfl
  split
  · exact .inr rfl
  · exact .inr rfl
theorem piece_op {o : TOp} (ho : okOp o) (h : opOK o = true) : pieceV (opL o) = (o, true) := by
  have hh := h
  unfold opOK at hh
  simp only [Bool.and_eq_true] at hh
  obtain ⟨k0, k1, _⟩ := right_kind hh.1
  unfold pieceV
  rw [opL_words ho.vn h]
  show opV (kindS (signV o.1)) (opFieldsV o) = _
  rw [kindS_sign k0 k1]
  have e : (opV o.1 (opFieldsV o)).1 = o := (bareV_iff o ho.vn hh.1).2 hh.2
  have t := opV_two o.1 (opFieldsV o)
  rw [e] at t
  have : (opV o.1 (opFieldsV o)).2 = true := by
    rcases t with t | t
    · rw [t] at k0; exact absurd k0 (by decide)
    · rw [t]; exact hh.1
  exact Prod.ext e this
theorem head_is {c : TCall} (hc : okC c) (h : isV c = true) : headV (showV c) = (ownV c, true) := by
  obtain ⟨k0, k1⟩ := kind_in h
  unfold headV
  rw [line_pieces hc h]
  show callV (kindW (at_ (splitL (line0 c) sp) 0)) ((splitL (line0 c) sp).drop 1) = _
  rw [line0_words h]
  show callV (kindW (wordV c.1)) (fieldsV c) = _
  rw [kindW_word k0 k1, own_eq]
theorem set_own {c : TCall} (h : isV c = true) : setOps (ownV c) (cOps c) = c := by
  rw [← prog_is] at h
  unfold progV lastB at h
  simp only [Bool.and_eq_true] at h
  refine (call_eq _ _).1 ?_
  rw [Bool.and_eq_true]
  exact ⟨h.2.2.2.2.2.2.1, decide_eq_true rfl⟩
theorem raw_is {c : TCall} (hc : okC c) (h : isV c = true) : rawV (showV c) = c ∧ rawB (showV c) = true := by
  have hp : (((splitL (showV c) sep3).drop 1).map pieceV) = (cOps c).map (fun o => (o, true)) := by
    rw [line_pieces hc h]
    show ((cOps c).map opL).map pieceV = _
    rw [List.map_map]
    refine List.map_congr_left fun o ho => ?_
    exact piece_op (hc.ops o ho) (List.all_eq_true.1 (is_ops h).2.1 o ho)
  constructor
  · unfold rawV
    rw [hp, head_is hc h, List.map_map]
    show setOps (ownV c) ((cOps c).map fun o => o) = c
    rw [List.map_id']
    exact set_own h
  · unfold rawB
    rw [hp, head_is hc h]
    simp
/-- What the program reads out of its own line. -/
theorem read_back {c : TCall} (hc : okC c) (h : isV c = true) : finV (showV c) (rawB (showV c)) (rawV (showV c)) = (c, 0) := by
  obtain ⟨e1, e2⟩ := raw_is hc h
  unfold finV
  rw [e1, e2, if_pos ⟨rfl, h, rfl⟩]
theorem raw_okC (s : ByteArray) (hs : s.size ≤ 400000) : okC (rawV s) := by
  have h0 := splitL_len s sep3 (by decide)
  have hz := split_le (sep := sep3) hs
  have h1 : (rd .str (splitL s sep3) 0).size ≤ 400000 := hz _ (rd_mem (e := .str) h0.2)
  refine ok_set (sm_call _ _ (drop_le (split_le h1))) (by simp; omega) (fun o ho => ?_)
  obtain ⟨p, hp, rfl⟩ := List.mem_map.1 ho
  obtain ⟨z, hz', rfl⟩ := List.mem_map.1 hp
  exact ok_piece z (hz z (List.mem_of_mem_drop hz'))
end Go.Proofs.YthbaafcoidjflaaGreatDoor.AE
end
section
set_option linter.unusedVariables false
set_option linter.unusedSimpArgs false
namespace Go.Proofs.YthbaafcoidjflaaGreatDoor.AE
open Go
theorem same_self (c : TCall) : (headB c c && decide (cOps c = cOps c)) = true := (call_eq c c).2 rfl
theorem fin_cases (s : ByteArray) : (finV s (rawB s) (rawV s) = (zC, 17)) ∨ (isV (rawV s) = true ∧ showV (rawV s) = s ∧ finV s (rawB s) (rawV s) = (rawV s, 0)) := by
  unfold finV
  split
  · rename_i h; exact .inr ⟨h.2.1, h.2.2, rfl⟩
  · exact .inl rfl
end Go.Proofs.YthbaafcoidjflaaGreatDoor.AE
end
section
set_option linter.unusedVariables false
set_option linter.unusedSimpArgs false
set_option maxRecDepth 20000
namespace Go.Proofs.YthbaafcoidjflaaGreatDoor.AE
open Go

/-! ### A text's pieces between blanks -/
def spF (s : ByteArray) : Nat → Nat → ByteArray → List ByteArray → List ByteArray
  | 0, _, own, out => out ++ [own]
  | d + 1, i, own, out => if byteAt s (i : Int) = 32 then spF s d (i + 1) eS (out ++ [own]) else spF s d (i + 1) (own ++ s.extract i (i + 1)) out
def splitR (s : ByteArray) : List ByteArray := spF s s.size 0 eS []
theorem oneX_size (s : ByteArray) (i : Nat) : (s.extract i (i + 1)).size ≤ 1 := by rw [ByteArray.size_extract]; omega
theorem rsplit_l (s : ByteArray) (hs : s.size ≤ 1000000) : ∀ (d i : Nat) (own : ByteArray) (out : List ByteArray), i + d = s.size → own.size ≤ i → out.length ≤ i → V.pleachref43_split.l111010 s own (i : Int) out = some (spF s d i own out)
  | 0, i, own, out, h, h1, h2 => by
    apply V.pleachref43_split.l111010.of; unfold F.pleachref43_split.l111010.B
    rw [if_out (by omega), guard_dec (by simp only [List.length_cons, List.length_nil]; unfold nmax; omega)]; rfl
  | d + 1, i, own, out, h, h1, h2 => by
    have hi : i < s.size := by omega
    have z : eS.size = 0 := rfl
    have h3 := oneX_size s i
    apply V.pleachref43_split.l111010.of; unfold F.pleachref43_split.l111010.B
    rw [if_in hi, guard_in hi, w64_up hi (by omega), nat_cast, nat_cast]
    unfold spF
    by_cases g : byteAt s (i : Int) = 32
    · rw [show (byteAt s (i : Int) == 32) = true by simp [g], cond_true, if_pos g, guard_dec (by simp only [List.length_cons, List.length_nil]; unfold nmax; omega), rsplit_l s hs d (i + 1) _ _ (by omega) (Nat.zero_le _) (by simp; omega)]
    · rw [show (byteAt s (i : Int) == 32) = false by simp [g], cond_false, if_neg g, guard_of (by simp; omega), guard_dec (by unfold i64max; omega), rsplit_l s hs d (i + 1) _ _ (by omega) (by rw [ByteArray.size_append]; omega) (by omega)]
theorem rsplit_ok (s : ByteArray) (hs : s.size ≤ 1000000) : V.pleachref43_split s = some (splitR s) := by
  apply V.pleachref43_split.of; unfold F.pleachref43_split.B
  exact rsplit_l s hs s.size 0 eS [] (by omega) (Nat.zero_le _) (Nat.zero_le _)
theorem spF_len (s : ByteArray) : ∀ (d i : Nat) (own : ByteArray) (out : List ByteArray), 0 < (spF s d i own out).length ∧ (spF s d i own out).length ≤ out.length + d + 1
  | 0, i, own, out => by simp [spF]
  | d + 1, i, own, out => by
    unfold spF
    split
    · have := spF_len s d (i + 1) eS (out ++ [own]); simp at this; omega
    · have := spF_len s d (i + 1) (own ++ s.extract i (i + 1)) out; omega
theorem spF_small (s : ByteArray) (B : Nat) : ∀ (d i : Nat) (own : ByteArray) (out : List ByteArray), own.size + d ≤ B → (∀ z ∈ out, z.size ≤ B) → ∀ z ∈ spF s d i own out, z.size ≤ B
  | 0, i, own, out, h, ho, z, hz => by
    rcases List.mem_append.1 hz with g | g
    · exact ho z g
    · simp at g; subst g; omega
  | d + 1, i, own, out, h, ho, z, hz => by
    have h0 : eS.size = 0 := rfl
    have h3 := oneX_size s i
    unfold spF at hz
    split at hz
    · refine spF_small s B d (i + 1) _ _ (by show 0 + d ≤ B; omega) (fun y hy => ?_) z hz
      rcases List.mem_append.1 hy with g | g
      · exact ho y g
      · simp at g; subst g; omega
    · exact spF_small s B d (i + 1) _ _ (by rw [ByteArray.size_append]; omega) ho z hz
theorem splitR_small {s z : ByteArray} (h : z ∈ splitR s) : z.size ≤ s.size := spF_small s s.size s.size 0 eS [] (by have : eS.size = 0 := rfl; omega) (fun _ h => absurd h List.not_mem_nil) z h
theorem splitR_len (s : ByteArray) : 0 < (splitR s).length ∧ (splitR s).length ≤ s.size + 1 := by have := spF_len s s.size 0 eS []; unfold splitR; simp at this; omega
theorem ext_data (s : ByteArray) (i n : Nat) : (s.extract i (i + n)).data.toList = (s.data.toList.drop i).take n := by
  rw [Lib.extract_data]
  simp
theorem spF_run (s : ByteArray) : ∀ (n d i : Nat) (own : ByteArray) (out : List ByteArray), (∀ j, j < n → byteAt s ((i + j : Nat) : Int) ≠ 32) → spF s (d + n) i own out = spF s d (i + n) (own ++ s.extract i (i + n)) out
  | 0, d, i, own, out, h => by
    have : own ++ s.extract i (i + 0) = own := by
      apply ByteArray.ext; apply Array.ext'
      rw [ByteArray.data_append, Array.toList_append, ext_data, List.take_zero, List.append_nil]
    rw [this]; rfl
  | n + 1, d, i, own, out, h => by
    show spF s ((d + n) + 1) i own out = _
    rw [spF, if_neg (by have := h 0 (by omega); rwa [Nat.add_zero] at this)]
    rw [spF_run s n d (i + 1) _ out (fun j hj => by have := h (j + 1) (by omega); rwa [show i + (j + 1) = i + 1 + j by omega] at this)]
    have : (own ++ s.extract i (i + 1)) ++ s.extract (i + 1) (i + 1 + n) = own ++ s.extract i (i + (n + 1)) := by
      apply ByteArray.ext; apply Array.ext'
      simp only [ByteArray.data_append, Array.toList_append, ext_data, List.append_assoc]
      congr 1
      rw [show n + 1 = 1 + n by omega, List.take_add, List.drop_drop]
    rw [this, show i + 1 + n = i + (n + 1) by omega]
theorem byte_mid (p x y : ByteArray) (j : Nat) (h : j < x.size) : byteAt (p ++ (x ++ y)) ((p.size + j : Nat) : Int) = byteAt x (j : Int) := by
  unfold byteAt
  rw [nat_cast, nat_cast, ByteArray.data_append, ByteArray.data_append, Array.toList_append, Array.toList_append]
  have hp : p.data.toList.length = p.size := data_len p
  have hx : x.data.toList.length = x.size := data_len x
  rw [List.getD_eq_getElem?_getD, List.getElem?_append_right (by omega), List.getElem?_append_left (by omega), show p.size + j - p.data.toList.length = j by omega, ← List.getD_eq_getElem?_getD]
theorem ext_mid (p x y : ByteArray) : (p ++ (x ++ y)).extract p.size (p.size + x.size) = x := by
  apply ByteArray.ext; apply Array.ext'
  have hp : p.data.toList.length = p.size := data_len p
  have hx : x.data.toList.length = x.size := data_len x
  rw [ext_data, ByteArray.data_append, ByteArray.data_append, Array.toList_append, Array.toList_append, List.drop_left' hp, List.take_left' hx]
theorem spF_words : ∀ (r : List ByteArray) (p x : ByteArray) (out : List ByteArray), (∀ z ∈ x :: r, 32 ∉ z.data.toList) → spF (p ++ (x ++ tailB sp r)) ((x ++ tailB sp r).size) p.size eS out = out ++ (x :: r)
  | [], p, x, out, h => by
    have hx : ∀ j, j < x.size → byteAt (p ++ (x ++ tailB sp [])) ((p.size + j : Nat) : Int) ≠ 32 := fun j hj => by
      rw [byte_mid p x _ j hj, bt_data x j hj]
      intro e
      apply (h x List.mem_cons_self)
      have : x.data.toList[j]'(by rw [data_len]; exact hj) = 32 := UInt8.toNat_inj.1 (by
        have : ((x.data.toList[j]'(by rw [data_len]; exact hj)).toNat : Int) = 32 := e
        show _ = 32; omega)
      rw [← this]; exact List.getElem_mem _
    have e : (x ++ tailB sp []).size = 0 + x.size := by rw [show tailB sp [] = eS from rfl, app_eS]; omega
    rw [e, spF_run _ _ _ _ _ _ hx, ext_mid, eS_app]; rfl
  | y :: r, p, x, out, h => by
    have hx : ∀ j, j < x.size → byteAt (p ++ (x ++ tailB sp (y :: r))) ((p.size + j : Nat) : Int) ≠ 32 := fun j hj => by
      rw [byte_mid p x _ j hj, bt_data x j hj]
      intro e
      apply (h x List.mem_cons_self)
      have : x.data.toList[j]'(by rw [data_len]; exact hj) = 32 := UInt8.toNat_inj.1 (by
        have : ((x.data.toList[j]'(by rw [data_len]; exact hj)).toNat : Int) = 32 := e
        show _ = 32; omega)
      rw [← this]; exact List.getElem_mem _
    have e : (x ++ tailB sp (y :: r)).size = ((y ++ tailB sp r).size + 1) + x.size := by
      show (x ++ (sp ++ (y ++ tailB sp r))).size = _
      rw [ByteArray.size_append, ByteArray.size_append]
      have : sp.size = 1 := rfl
      omega
    rw [e, spF_run _ _ _ _ _ _ hx, ext_mid, eS_app]
    have b : byteAt (p ++ (x ++ tailB sp (y :: r))) ((p.size + x.size : Nat) : Int) = 32 := by
      have := byte_mid (p ++ x) sp (y ++ tailB sp r) 0 (by decide)
      rw [ByteArray.size_append, ByteArray.append_assoc, Nat.add_zero] at this
      exact this
    have ep : p ++ (x ++ tailB sp (y :: r)) = (p ++ (x ++ sp)) ++ (y ++ tailB sp r) := by
      show p ++ (x ++ (sp ++ (y ++ tailB sp r))) = _
      simp only [ByteArray.append_assoc]
    rw [spF, if_pos b, ep]
    have := spF_words r (p ++ (x ++ sp)) y (out ++ [x]) (fun z hz => h z (List.mem_cons_of_mem _ hz))
    rw [show (p ++ (x ++ sp)).size = p.size + x.size + 1 by rw [ByteArray.size_append, ByteArray.size_append]; have : sp.size = 1 := rfl; omega] at this
    rw [this, List.append_assoc]; rfl
theorem splitR_words (x : ByteArray) (r : List ByteArray) (h : ∀ z ∈ x :: r, 32 ∉ z.data.toList) : splitR (x ++ tailB sp r) = x :: r := by
  have := spF_words r eS x [] h
  rw [eS_app] at this
  exact this

/-! ### Places -/
def plR (l : List ByteArray) (a : ByteArray) : Nat → Nat → Int
  | 0, _ => 0
  | d + 1, i => if rd .str l i = a then ((i + 1 : Nat) : Int) else plR l a d (i + 1)
def placeR (l : List ByteArray) (a : ByteArray) : Int := plR l a l.length 0
theorem rplace_l (l : List ByteArray) (a : ByteArray) (hl : l.length ≤ 1000) : ∀ d i : Nat, i + d = l.length → V.pleachref43_place.l1010 l a (i : Int) = some (plR l a d i)
  | 0, i, h => by
    apply V.pleachref43_place.l1010.of; unfold F.pleachref43_place.l1010.B
    rw [if_out (by omega)]; rfl
  | d + 1, i, h => by
    have hi : i < l.length := by omega
    apply V.pleachref43_place.l1010.of; unfold F.pleachref43_place.l1010.B
    rw [if_in hi, guard_in hi, w64_up hi (by omega), nat_cast, strEq_dec, rplace_l l a hl d (i + 1) (by omega)]
    unfold plR
    by_cases g : rd .str l i = a
    · rw [if_yes g, if_pos g]
    · rw [if_no g, if_neg g]; cases d <;> rfl
theorem rplace_ok (l : List ByteArray) (a : ByteArray) (hl : l.length ≤ 1000) : V.pleachref43_place l a = some (placeR l a) := by
  apply V.pleachref43_place.of; unfold F.pleachref43_place.B
  exact rplace_l l a hl l.length 0 (by omega)
def plW (a : ByteArray) : Int := placeR (wordsT.drop 1) a
def plS (a : ByteArray) : Int := placeR (signsT.drop 1) a
theorem plW_word {k : Int} (h0 : 1 ≤ k) (h1 : k ≤ 19) : plW (wordV k) = k := by
  have : ∀ n : Fin 19, plW (wordV (((n : Nat) + 1 : Nat) : Int)) = (((n : Nat) + 1 : Nat) : Int) := by decide
  have := this ⟨k.toNat - 1, by omega⟩
  rwa [show ((((k.toNat - 1) + 1 : Nat)) : Int) = k by omega] at this
theorem plS_sign {k : Int} (h0 : 1 ≤ k) (h1 : k ≤ 12) : plS (signV k) = k := by
  have : ∀ n : Fin 12, plS (signV (((n : Nat) + 1 : Nat) : Int)) = (((n : Nat) + 1 : Nat) : Int) := by decide
  have := this ⟨k.toNat - 1, by omega⟩
  rwa [show ((((k.toNat - 1) + 1 : Nat)) : Int) = k by omega] at this

/-! ### A call with a field -/
def putS (x : Int) (s : ByteArray) : ByteArray := if s = noS ∧ (x = 79 ∨ x = 116) then eS else s
def putV (c : TCall) (x : Int) (s : ByteArray) : TCall :=
  if x == 110 then (c.1, s, c.2.2) else if x == 111 || x == 79 then (c.1, c.2.1, s, c.2.2.2) else if x == 104 then (c.1, c.2.1, c.2.2.1, s, c.2.2.2.2) else if x == 120 then (c.1, c.2.1, c.2.2.1, c.2.2.2.1, s, c.2.2.2.2.2) else if x == 105 then (c.1, c.2.1, c.2.2.1, c.2.2.2.1, c.2.2.2.2.1, c.2.2.2.2.2.1, c.2.2.2.2.2.2.1, s) else (c.1, c.2.1, c.2.2.1, c.2.2.2.1, c.2.2.2.2.1, c.2.2.2.2.2.1, s, c.2.2.2.2.2.2.2)
theorem put_end (c : TCall) (x : Int) (s0 n o h y t i : ByteArray) : V.pleachref43_put.j111 c x s0 n o h y t i = some (c.1, n, o, h, y, c.2.2.2.2.2.1, t, i) := V.pleachref43_put.j111.of _ _ _ _ _ _ _ _ _ rfl
theorem put_2 (c : TCall) (x : Int) (s0 s : ByteArray) : V.pleachref43_put.j11 c x s0 s = some (putV c x s) := by
  apply V.pleachref43_put.j11.of; unfold F.pleachref43_put.j11.B putV
  have e : ∀ b, V.pleachref43_put.j11010111 c x s0 s b = some (if b then (c.1, c.2.1, s, c.2.2.2) else if x == 104 then (c.1, c.2.1, c.2.2.1, s, c.2.2.2.2) else if x == 120 then (c.1, c.2.1, c.2.2.1, c.2.2.2.1, s, c.2.2.2.2.2) else if x == 105 then (c.1, c.2.1, c.2.2.1, c.2.2.2.1, c.2.2.2.2.1, c.2.2.2.2.2.1, c.2.2.2.2.2.2.1, s) else (c.1, c.2.1, c.2.2.1, c.2.2.2.1, c.2.2.2.2.1, c.2.2.2.2.2.1, s, c.2.2.2.2.2.2.2)) := fun b => by
    apply V.pleachref43_put.j11010111.of; unfold F.pleachref43_put.j11010111.B
    simp only [put_end]
    cases b <;> cases (x == 104) <;> cases (x == 120) <;> cases (x == 105) <;> rfl
  simp only [e, put_end]
  cases (x == 110) <;> cases (x == 111) <;> cases (x == 79) <;> rfl
theorem put_ok (c : TCall) (x : Int) (s : ByteArray) : V.pleachref43_put c x s = some (putV c x (putS x s)) := by
  apply V.pleachref43_put.of; unfold F.pleachref43_put.B putS
  have e : ∀ b, V.pleachref43_put.j101 c x s b = some (putV c x (if b then eS else s)) := fun b => by
    apply V.pleachref43_put.j101.of; unfold F.pleachref43_put.j101.B
    cases b
    · exact put_2 c x s s
    · exact put_2 c x s eS
  rw [strEq_dec]
  by_cases g : s = noS
  · rw [if_yes g, e, e]
    by_cases h : x = 79
    · simp [h, g]
    · have : (x == 79) = false := by simp [h]
      rw [this, cond_false]
      by_cases h2 : x = 116
      · simp [h2, g]
      · simp [h, h2, g]
  · rw [if_no g, e, if_neg (by decide)]
    rw [if_neg (fun q => g q.1)]
def putF (c : TCall) (f : ByteArray) (l : List ByteArray) : Nat → Nat → TCall
  | 0, _ => c
  | d + 1, i => putF (putV c (byteAt f (i : Int)) (putS (byteAt f (i : Int)) (rd .str l (1 + i)))) f l d (i + 1)
theorem putS_le {x : Int} {s : ByteArray} {B : Nat} (h : s.size ≤ B) : (putS x s).size ≤ B := by unfold putS; split; exact Nat.zero_le _; exact h
structure sm2 (c : TCall) (B : Nat) : Prop where
  n : (cName c).size ≤ B
  o : (cOld c).size ≤ B
  h : (cHash c).size ≤ B
  x : (cOther c).size ≤ B
  t : (cNote c).size ≤ B
  i : (cId c).size ≤ B
theorem sm_put {c : TCall} {x : Int} {s : ByteArray} {B : Nat} (h : sm2 c B) (hs : s.size ≤ B) : sm2 (putV c x s) B := by
  unfold putV
  (repeat' split) <;> constructor <;> first | exact hs | exact h.n | exact h.o | exact h.h | exact h.x | exact h.t | exact h.i
theorem sm_putF {f : ByteArray} {l : List ByteArray} {B : Nat} (hz : ∀ z ∈ l, z.size ≤ B) : ∀ (d i : Nat) (c : TCall), sm2 c B → sm2 (putF c f l d i) B
  | 0, _, c, h => h
  | d + 1, i, c, h => sm_putF hz d (i + 1) _ (sm_put h (putS_le (atl_le hz _)))
theorem put_ops (c : TCall) (x : Int) (s : ByteArray) : cOps (putV c x s) = cOps c ∧ (putV c x s).1 = c.1 := by
  unfold putV
  (repeat' split) <;> exact ⟨rfl, rfl⟩
theorem putF_ops (f : ByteArray) (l : List ByteArray) : ∀ (d i : Nat) (c : TCall), cOps (putF c f l d i) = cOps c ∧ (putF c f l d i).1 = c.1
  | 0, _, c => ⟨rfl, rfl⟩
  | d + 1, i, c => by
    have h1 := putF_ops f l d (i + 1) (putV c (byteAt f (i : Int)) (putS (byteAt f (i : Int)) (rd .str l (1 + i))))
    have h2 := put_ops c (byteAt f (i : Int)) (putS (byteAt f (i : Int)) (rd .str l (1 + i)))
    exact ⟨h1.1.trans h2.1, h1.2.trans h2.2⟩

/-! ### An op with a field -/
noncomputable def pvR (s : ByteArray) : TValue := (parseF numR s).getD (0, 0, eS)
noncomputable def opPutV (o : TOp) (x : Int) (s : ByteArray) : TOp :=
  if x == 100 then (o.1, s, o.2.2) else if x == 102 then (o.1, o.2.1, s, o.2.2.2) else if x == 116 then (o.1, o.2.1, o.2.2.1, s, o.2.2.2.2) else if x == 107 then (o.1, o.2.1, o.2.2.1, o.2.2.2.1, s, o.2.2.2.2.2) else (o.1, o.2.1, o.2.2.1, o.2.2.2.1, o.2.2.2.2.1, pvR s)
theorem opPut_ok (o : TOp) (x : Int) (s : ByteArray) (hs : s.size ≤ 1000000) : V.pleachref43_opPut o x s = some (opPutV o x s) := by
  apply V.pleachref43_opPut.of; unfold F.pleachref43_opPut.B opPutV pvR
  rw [refParse_ok (by omega)]
  cases (x == 100) <;> cases (x == 102) <;> cases (x == 116) <;> cases (x == 107) <;> cases parseF numR s <;> rfl
theorem pvR_ok {s : ByteArray} (hs : s.size ≤ 1000000) : (pvR s).2.2.size ≤ 140737488351232 ∧ in64 (pvR s).2.1 := by
  unfold pvR
  cases h : parseF numR s with
  | none => exact ⟨by decide, by show in64 0; unfold in64; omega⟩
  | some v =>
    rw [parse_same (by omega)] at h
    obtain ⟨v1, v2, v3⟩ := parse_sound hs h
    exact ⟨by have := (value_kind v1).2; show v.2.2.size ≤ _; omega, v2⟩
theorem ok_opPut {o : TOp} {x : Int} {s : ByteArray} (h : okOp o) (hs : s.size ≤ 1000000) : okOp (opPutV o x s) := by
  obtain ⟨h1, h2, h3, h4, h5, h6⟩ := h
  have hb : s.size ≤ 140737488351232 := by omega
  have hp := pvR_ok hs
  unfold opPutV
  split
  · exact ⟨hb, h2, h3, h4, h5, h6⟩
  split
  · exact ⟨h1, hb, h3, h4, h5, h6⟩
  split
  · exact ⟨h1, h2, hb, h4, h5, h6⟩
  split
  · exact ⟨h1, h2, h3, hb, h5, h6⟩
  · exact ⟨h1, h2, h3, h4, hp.1, hp.2⟩
noncomputable def opPutF (o : TOp) (g : ByteArray) (l : List ByteArray) (a : Nat) : Nat → Nat → TOp
  | 0, _ => o
  | d + 1, i => opPutF (opPutV o (byteAt g (i : Int)) (rd .str l (a + i))) g l a d (i + 1)
theorem ok_opPutF {g : ByteArray} {l : List ByteArray} (hz : ∀ z ∈ l, z.size ≤ 1000000) (a : Nat) : ∀ (d i : Nat) (o : TOp), okOp o → okOp (opPutF o g l a d i)
  | 0, _, o, h => h
  | d + 1, i, o, h => ok_opPutF hz a d (i + 1) _ (ok_opPut h (atl_le hz _))
end Go.Proofs.YthbaafcoidjflaaGreatDoor.AE
end
section
set_option linter.unusedVariables false
set_option linter.unusedSimpArgs false
set_option maxRecDepth 20000
namespace Go.Proofs.YthbaafcoidjflaaGreatDoor.AE
open Go

noncomputable def opAt (l : List ByteArray) (a : Nat) : TOp := opPutF (bareO (plS (rd .str l (a + 1)))) (opFormV (plS (rd .str l (a + 1)))) l (a + 2) (opFormV (plS (rd .str l (a + 1)))).size 0
open Classical in
noncomputable def opsR (l : List ByteArray) : Nat → Nat → Option (List TOp)
  | 0, _ => some []
  | n + 1, a => if a + 1 < l.length then (if rd .str l a = semi ∧ opFormV (plS (rd .str l (a + 1))) ≠ qS ∧ a + 2 + (opFormV (plS (rd .str l (a + 1)))).size ≤ l.length then (opsR l n (a + 2 + (opFormV (plS (rd .str l (a + 1)))).size)).map (opAt l a :: ·) else none) else some []
open Classical in
noncomputable def finR (s : ByteArray) (c : TCall) : TCall × Bool := if (if isV c then showV c else eS) = s then (c, true) else (zC, false)
noncomputable def endR (s : ByteArray) (c : TCall) (acc : List TOp) (r : Option (List TOp)) : TCall × Bool := match r with
  | none => (zC, false)
  | some ops => finR s (setOps c (acc ++ ops))
theorem ok2 {c : TCall} (h : sm2 c 1000000) {l : List TOp} (hl : l.length ≤ 10000000) (ho : ∀ o ∈ l, okOp o) : okC (setOps c l) := ⟨by have := h.n; show (cName c).size ≤ _; omega, by have := h.o; show (cOld c).size ≤ _; omega, by have := h.h; show (cHash c).size ≤ _; omega, by have := h.x; show (cOther c).size ≤ _; omega, by have := h.t; show (cNote c).size ≤ _; omega, by have := h.i; show (cId c).size ≤ _; omega, by show l.length ≤ _; omega, ho⟩
theorem R_end (s : ByteArray) (c : TCall) (hc : okC c) : ((V.pleachref43_Show (c.1, c.2.1, c.2.2.1, c.2.2.2.1, c.2.2.2.2.1, c.2.2.2.2.2.1, c.2.2.2.2.2.2.1, c.2.2.2.2.2.2.2)).bind fun t13 => (bif (!strEq t13 s) then (some (zC, false)) else (some ((c.1, c.2.1, c.2.2.1, c.2.2.2.1, c.2.2.2.2.1, c.2.2.2.2.2.1, c.2.2.2.2.2.2.1, c.2.2.2.2.2.2.2), true)))) = some (finR s c) := by
  have hS : V.pleachref43_Show (c.1, c.2.1, c.2.2.1, c.2.2.2.1, c.2.2.2.2.1, c.2.2.2.2.2.1, c.2.2.2.2.2.2.1, c.2.2.2.2.2.2.2) = some (if isV c then showV c else eS) := lrShow_ok c hc
  rw [hS, Option.bind_some, strEq_dec]
  unfold finR
  by_cases g : (if isV c then showV c else eS) = s
  · simp [g]
  · simp [g]
theorem form_small (k : Int) : (opFormV k).size ≤ 3 := opFormV_size k
theorem ok_bare (k : Int) : okOp (bareO k) := ⟨eS_le _, eS_le _, eS_le _, eS_le _, eS_le _, by show in64 0; unfold in64; omega⟩
theorem ok_at {l : List ByteArray} (hz : ∀ z ∈ l, z.size ≤ 1000000) (a : Nat) : okOp (opAt l a) := ok_opPutF hz _ _ _ _ (ok_bare _)
theorem R_inner (s : ByteArray) (l : List ByteArray) (hl : l.length ≤ 1000001) (hz : ∀ z ∈ l, z.size ≤ 1000000) (c : TCall) (a : Nat) (g : ByteArray) (hg : g.size ≤ 3) (ha : a + 2 + g.size ≤ l.length) (acc : List TOp) (hacc : acc.length ≤ 1000001) {r : TCall × Bool} :
    ∀ (d i : Nat) (o : TOp), i + d = g.size → V.pleachref43_Parse.l111111100 s ((a + 2 + g.size : Nat) : Int) l c.1 c.2.1 c.2.2.1 c.2.2.2.1 c.2.2.2.2.1 c.2.2.2.2.2.2.1 c.2.2.2.2.2.2.2 (acc ++ [opPutF o g l (a + 2) d i]) = some r →
    V.pleachref43_Parse.l111111100010111010 s (a : Int) g (i : Int) l c.1 c.2.1 c.2.2.1 c.2.2.2.1 c.2.2.2.2.1 c.2.2.2.2.2.2.1 c.2.2.2.2.2.2.2 o.1 o.2.1 o.2.2.1 o.2.2.2.1 o.2.2.2.2.1 o.2.2.2.2.2.1 o.2.2.2.2.2.2.1 o.2.2.2.2.2.2.2 acc = some r
  | 0, i, o, h, hr => by
    apply V.pleachref43_Parse.l111111100010111010.of; unfold F.pleachref43_Parse.l111111100010111010.B
    rw [if_out (by omega), guard_dec (by simp only [List.length_cons, List.length_nil]; unfold nmax; omega)]
    rw [show w64 ((w64 ((a : Int) + 2)) + (g.size : Int)) = ((a + 2 + g.size : Nat) : Int) by rw [w64_id (x := (a : Int) + 2) (by omega) (by omega), w64_id (by omega) (by omega)]; omega]
    exact hr
  | d + 1, i, o, h, hr => by
    have hi : i < g.size := by omega
    have hj : a + 2 + i < l.length := by omega
    apply V.pleachref43_Parse.l111111100010111010.of; unfold F.pleachref43_Parse.l111111100010111010.B
    rw [show w64 ((w64 ((a : Int) + 2)) + (i : Int)) = ((a + 2 + i : Nat) : Int) by rw [w64_id (x := (a : Int) + 2) (by omega) (by omega), w64_id (by omega) (by omega)]; omega]
    rw [if_in hi, guard_in hi, guard_in hj, nat_cast, w64_up hi (by omega)]
    rw [show V.pleachref43_opPut (o.1, o.2.1, o.2.2.1, o.2.2.2.1, o.2.2.2.2.1, o.2.2.2.2.2.1, o.2.2.2.2.2.2.1, o.2.2.2.2.2.2.2) (byteAt g (i : Int)) (rd .str l (a + 2 + i)) = some (opPutV o (byteAt g (i : Int)) (rd .str l (a + 2 + i))) from opPut_ok o _ _ (atl_le hz _), Option.bind_some]
    exact R_inner s l hl hz c a g hg ha acc hacc d (i + 1) _ (by omega) hr
theorem R_ops (s : ByteArray) (l : List ByteArray) (hl : l.length ≤ 1000001) (hz : ∀ z ∈ l, z.size ≤ 1000000) (c : TCall) (hc : sm2 c 1000000) : ∀ (n a : Nat) (acc : List TOp), l.length ≤ a + n → a ≤ l.length → acc.length ≤ a → (∀ o ∈ acc, okOp o) →
    V.pleachref43_Parse.l111111100 s (a : Int) l c.1 c.2.1 c.2.2.1 c.2.2.2.1 c.2.2.2.2.1 c.2.2.2.2.2.2.1 c.2.2.2.2.2.2.2 acc = some (endR s c acc (opsR l n a))
  | 0, a, acc, h, ha, hacc, ho => by
    apply V.pleachref43_Parse.l111111100.of; unfold F.pleachref43_Parse.l111111100.B
    rw [w64_up (show a < 2000000 by omega) (by omega), if_out (by omega)]
    refine (R_end s (setOps c acc) (ok2 hc (by omega) ho)).trans ?_
    unfold endR opsR
    simp only [List.append_nil]
  | n + 1, a, acc, h, ha, hacc, ho => by
    apply V.pleachref43_Parse.l111111100.of; unfold F.pleachref43_Parse.l111111100.B
    rw [w64_up (show a < 2000000 by omega) (by omega)]
    by_cases h1 : a + 1 < l.length
    · unfold opsR
      rw [if_in h1, guard_in h1, if_pos h1, nat_cast]
      have hp : V.pleachref43_place (signsT.drop 1) (rd .str l (a + 1)) = some (plS (rd .str l (a + 1))) := rplace_ok _ _ (by decide)
      simp only [rSigns_ok, Option.bind_some, hp, meet_self]
      apply V.pleachref43_Parse.j1111111000101.of; unfold F.pleachref43_Parse.j1111111000101.B
      have ha' : a < l.length := by omega
      have hf := form_small (plS (rd .str l (a + 1)))
      rw [opForm_ok, Option.bind_some, guard_in ha', nat_cast, strEq_dec, strEq_dec]
      have bad : V.pleachref43_Parse.j1111111000101101 s (a : Int) (opFormV (plS (rd .str l (a + 1)))) true l c.1 c.2.1 c.2.2.1 c.2.2.2.1 c.2.2.2.2.1 c.2.2.2.2.2.2.1 c.2.2.2.2.2.2.2 (plS (rd .str l (a + 1))) acc = some (zC, false) := V.pleachref43_Parse.j1111111000101101.of _ _ _ _ _ _ _ _ _ _ _ _ _ _ rfl
      by_cases h2 : rd .str l a = semi
      · rw [show (!decide (rd .str l a = (⟨#[59]⟩ : ByteArray))) = false by rw [decide_eq_true (show rd .str l a = (⟨#[59]⟩ : ByteArray) from h2)]; rfl, cond_false]
        by_cases h3 : opFormV (plS (rd .str l (a + 1))) = qS
        · rw [if_yes h3, bad, if_neg (fun g => g.2.1 h3)]; rfl
        · rw [if_no h3, show w64 ((w64 ((a : Int) + 2)) + ((opFormV (plS (rd .str l (a + 1)))).size : Int)) = ((a + 2 + (opFormV (plS (rd .str l (a + 1)))).size : Nat) : Int) by rw [w64_id (x := (a : Int) + 2) (by omega) (by omega), w64_id (by omega) (by omega)]; omega]
          by_cases h4 : a + 2 + (opFormV (plS (rd .str l (a + 1)))).size ≤ l.length
          · rw [decide_eq_false (by omega), if_pos ⟨h2, h3, h4⟩]
            apply V.pleachref43_Parse.j1111111000101101.of; unfold F.pleachref43_Parse.j1111111000101101.B
            rw [cond_false]
            apply V.pleachref43_Parse.j111111100010111.of; unfold F.pleachref43_Parse.j111111100010111.B
            refine R_inner s l hl hz c a (opFormV (plS (rd .str l (a + 1)))) hf h4 acc (by omega) (opFormV (plS (rd .str l (a + 1)))).size 0 (bareO (plS (rd .str l (a + 1)))) (by omega) ?_
            have ho' : ∀ o ∈ acc ++ [opAt l a], okOp o := fun o h => by
              rcases List.mem_append.1 h with g | g
              · exact ho o g
              · simp at g; subst g; exact ok_at hz a
            refine (R_ops s l hl hz c hc n (a + 2 + (opFormV (plS (rd .str l (a + 1)))).size) (acc ++ [opAt l a]) (by omega) h4 (by simp; omega) ho').trans ?_
            cases opsR l n (a + 2 + (opFormV (plS (rd .str l (a + 1)))).size) with
            | none => rfl
            | some r =>
              show some (finR s (setOps c ((acc ++ [opAt l a]) ++ r))) = some (finR s (setOps c (acc ++ (opAt l a :: r))))
              rw [List.append_assoc]; rfl
          · rw [decide_eq_true (by omega), bad, if_neg (fun g => h4 g.2.2)]; rfl
      · rw [show (!decide (rd .str l a = (⟨#[59]⟩ : ByteArray))) = true by rw [decide_eq_false (show ¬ rd .str l a = (⟨#[59]⟩ : ByteArray) from h2)]; rfl, cond_true, bad, if_neg (fun g => h2 g.1)]; rfl
    · unfold opsR
      rw [if_out (by omega), if_neg h1]
      refine (R_end s (setOps c acc) (ok2 hc (by omega) ho)).trans ?_
      unfold endR
      simp only [List.append_nil]
theorem R_fields (s : ByteArray) (l : List ByteArray) (hl : l.length ≤ 1000001) (f : ByteArray) (hf : f.size ≤ 4) (hfl : 1 + f.size ≤ l.length) {r : TCall × Bool} : ∀ (d i : Nat) (c : TCall), i + d = f.size →
    V.pleachref43_Parse.l111111100 s ((1 + f.size : Nat) : Int) l (putF c f l d i).1 (putF c f l d i).2.1 (putF c f l d i).2.2.1 (putF c f l d i).2.2.2.1 (putF c f l d i).2.2.2.2.1 (putF c f l d i).2.2.2.2.2.2.1 (putF c f l d i).2.2.2.2.2.2.2 (putF c f l d i).2.2.2.2.2.1 = some r →
    V.pleachref43_Parse.l11111010 s f (i : Int) l c.1 c.2.1 c.2.2.1 c.2.2.2.1 c.2.2.2.2.1 c.2.2.2.2.2.2.1 c.2.2.2.2.2.2.2 c.2.2.2.2.2.1 = some r
  | 0, i, c, h, hr => by
    apply V.pleachref43_Parse.l11111010.of; unfold F.pleachref43_Parse.l11111010.B
    rw [if_out (by omega), show w64 (1 + (f.size : Int)) = ((1 + f.size : Nat) : Int) by rw [w64_id (by omega) (by omega)]; omega]
    exact hr
  | d + 1, i, c, h, hr => by
    have hi : i < f.size := by omega
    have hj : 1 + i < l.length := by omega
    apply V.pleachref43_Parse.l11111010.of; unfold F.pleachref43_Parse.l11111010.B
    rw [show w64 (1 + (i : Int)) = ((1 + i : Nat) : Int) by rw [w64_id (by omega) (by omega)]; omega]
    rw [if_in hi, guard_in hi, guard_in hj, nat_cast, w64_up hi (by omega)]
    rw [show V.pleachref43_put (c.1, c.2.1, c.2.2.1, c.2.2.2.1, c.2.2.2.2.1, c.2.2.2.2.2.1, c.2.2.2.2.2.2.1, c.2.2.2.2.2.2.2) (byteAt f (i : Int)) (rd .str l (1 + i)) = some (putV c (byteAt f (i : Int)) (putS (byteAt f (i : Int)) (rd .str l (1 + i)))) from put_ok c _ _, Option.bind_some]
    exact R_fields s l hl f hf hfl d (i + 1) _ (by omega) hr
abbrev kindR (s : ByteArray) : Int := plW (rd .str (splitR s) 0)
open Classical in
noncomputable def rawR (s : ByteArray) : TCall × Bool := if formV (kindR s) = qS ∨ (splitR s).length < 1 + (formV (kindR s)).size then (zC, false) else endR s (putF (bareK (kindR s)) (formV (kindR s)) (splitR s) (formV (kindR s)).size 0) [] (opsR (splitR s) (splitR s).length (1 + (formV (kindR s)).size))
theorem sm_bare (k : Int) (B : Nat) : sm2 (bareK k) B := ⟨eS_le _, eS_le _, eS_le _, eS_le _, eS_le _, eS_le _⟩
theorem lrParse_ok (s : ByteArray) (hs : s.size ≤ 1000000) : V.pleachref43_Parse s = some (rawR s) := by
  apply V.pleachref43_Parse.of; unfold F.pleachref43_Parse.B
  obtain ⟨l0, l1⟩ := splitR_len s
  have hz : ∀ z ∈ splitR s, z.size ≤ 1000000 := fun z h => by have := splitR_small h; omega
  rw [rsplit_ok s hs, Option.bind_some, guard_dec (by omega)]
  have hp : V.pleachref43_place (wordsT.drop 1) (rd .str (splitR s) 0) = some (kindR s) := rplace_ok _ _ (by decide)
  simp only [rWords_ok, Option.bind_some, hp, meet_self]
  apply V.pleachref43_Parse.j111.of; unfold F.pleachref43_Parse.j111.B
  have hf := formV_size (kindR s)
  rw [form_ok, Option.bind_some, strEq_dec]
  have e : w64 (1 + ((formV (kindR s)).size : Int)) = ((1 + (formV (kindR s)).size : Nat) : Int) := by rw [w64_id (by omega) (by omega)]; omega
  have bad : V.pleachref43_Parse.j111101 s (formV (kindR s)) true (splitR s) (kindR s) = some (zC, false) := V.pleachref43_Parse.j111101.of _ _ _ _ _ rfl
  unfold rawR
  by_cases h3 : formV (kindR s) = qS
  · rw [if_yes h3, bad, if_pos (.inl h3)]
  · rw [if_no h3, e]
    by_cases h4 : (splitR s).length < 1 + (formV (kindR s)).size
    · rw [decide_eq_true (by omega), bad, if_pos (.inr h4)]
    · rw [decide_eq_false (by omega), if_neg (fun g => g.elim h3 h4)]
      apply V.pleachref43_Parse.j111101.of; unfold F.pleachref43_Parse.j111101.B
      rw [cond_false]
      apply V.pleachref43_Parse.j11111.of; unfold F.pleachref43_Parse.j11111.B
      refine R_fields s (splitR s) (by omega) (formV (kindR s)) hf (by omega) (formV (kindR s)).size 0 (bareK (kindR s)) (by omega) ?_
      have hops := (putF_ops (formV (kindR s)) (splitR s) (formV (kindR s)).size 0 (bareK (kindR s))).1
      have hsm := sm_putF (f := formV (kindR s)) hz (formV (kindR s)).size 0 _ (sm_bare (kindR s) 1000000)
      generalize putF (bareK (kindR s)) (formV (kindR s)) (splitR s) (formV (kindR s)).size 0 = c at hops hsm ⊢
      rw [show c.2.2.2.2.2.1 = [] from hops]
      exact R_ops s (splitR s) (by omega) hz c hsm _ _ [] (by omega) (by omega) (Nat.zero_le _) (fun _ h => absurd h List.not_mem_nil)

/-! ### Of a call's own line -/
theorem rd_drop (l : List ByteArray) (a j : Nat) : rd .str (l.drop a) j = rd .str l (a + j) := by
  show (l.drop a).getD j _ = l.getD (a + j) _
  simp only [List.getD_eq_getElem?_getD, List.getElem?_drop]
theorem rd_app (l r : List ByteArray) (j : Nat) (h : j < l.length) : rd .str (l ++ r) j = rd .str l j := by
  show (l ++ r).getD j _ = l.getD j _
  simp only [List.getD_eq_getElem?_getD, List.getElem?_append_left h]
theorem pv_show {v : TValue} (h : valueB v = true) (hb : in64 v.2.1) : pvR (showB v) = v := by
  have hs := showB_le v hb
  unfold pvR
  rw [parse_same (by omega)]
  have := (parse_iff (f := atoiV) (fun n h => atoi_itoa h) atoiV_nil (fun s _ => atoiV_in s) (s := showB v) (by omega) v).2 ⟨h, hb, rfl⟩
  rw [this]; rfl
theorem op_form (o : TOp) (h : 1 ≤ o.1) (h' : o.1 ≤ 12) : (opFormV o.1).size = (opFieldsV o).length ∧ opFormV o.1 ≠ qS := by
  obtain ⟨k, i, f, t, y, v⟩ := o
  have hk : k = 1 ∨ k = 2 ∨ k = 3 ∨ k = 4 ∨ k = 5 ∨ k = 6 ∨ k = 7 ∨ k = 8 ∨ k = 9 ∨ k = 10 ∨ k = 11 ∨ k = 12 := by simp only at h h'; omega
  rcases hk with rfl | rfl | rfl | rfl | rfl | rfl | rfl | rfl | rfl | rfl | rfl | rfl <;> (refine ⟨rfl, ?_⟩; dsimp only; decide)
theorem opPut_kind (o : TOp) (ho : okOp o) (h : opOK o = true) (l : List ByteArray) (a : Nat) (hl : ∀ j, j < (opFieldsV o).length → rd .str l (a + j) = rd .str (opFieldsV o) j) : opPutF (bareO o.1) (opFormV o.1) l a (opFormV o.1).size 0 = o := by
  unfold opOK at h
  simp only [Bool.and_eq_true] at h
  obtain ⟨hr, hbare⟩ := h
  obtain ⟨k0, k1, _⟩ := right_kind hr
  have hvn : in64 (oVal o).2.1 := ho.vn
  obtain ⟨k, i, f, t, y, v⟩ := o
  simp only at k0 k1
  have hk : k = 1 ∨ k = 2 ∨ k = 3 ∨ k = 4 ∨ k = 5 ∨ k = 6 ∨ k = 7 ∨ k = 8 ∨ k = 9 ∨ k = 10 ∨ k = 11 ∨ k = 12 := by omega
  rcases hk with rfl | rfl | rfl | rfl | rfl | rfl | rfl | rfl | rfl | rfl | rfl | rfl
  · have e0 : rd .str l (a + 0) = i := hl 0 (by decide : (0 : Nat) < 1)
    show opPutV (bareO 1) 100 (rd .str l (a + 0)) = _
    rw [e0]
    have b : opBareB (1, i, f, t, y, v) = true := hbare
    simp [opBareB, six] at b
    obtain ⟨⟨rfl, rfl⟩, rfl, rfl⟩ := b
    rfl
  · have e0 : rd .str l (a + 0) = i := hl 0 (by decide : (0 : Nat) < 1)
    show opPutV (bareO 2) 100 (rd .str l (a + 0)) = _
    rw [e0]
    have b : opBareB (2, i, f, t, y, v) = true := hbare
    simp [opBareB, six] at b
    obtain ⟨⟨rfl, rfl⟩, rfl, rfl⟩ := b
    rfl
  · have e0 : rd .str l (a + 0) = i := hl 0 (by decide : (0 : Nat) < 3)
    have e1 : rd .str l (a + 1) = f := hl 1 (by decide : (1 : Nat) < 3)
    have e2 : rd .str l (a + 2) = t := hl 2 (by decide : (2 : Nat) < 3)
    show opPutV (opPutV (opPutV (bareO 3) 100 (rd .str l (a + 0))) 102 (rd .str l (a + 1))) 116 (rd .str l (a + 2)) = _
    rw [e0, e1, e2]
    have b : opBareB (3, i, f, t, y, v) = true := hbare
    simp [opBareB, six] at b
    obtain ⟨rfl, rfl⟩ := b
    rfl
  · have e0 : rd .str l (a + 0) = i := hl 0 (by decide : (0 : Nat) < 1)
    show opPutV (bareO 4) 100 (rd .str l (a + 0)) = _
    rw [e0]
    have b : opBareB (4, i, f, t, y, v) = true := hbare
    simp [opBareB, six] at b
    obtain ⟨⟨rfl, rfl⟩, rfl, rfl⟩ := b
    rfl
  · have e0 : rd .str l (a + 0) = i := hl 0 (by decide : (0 : Nat) < 2)
    have e1 : rd .str l (a + 1) = y := hl 1 (by decide : (1 : Nat) < 2)
    show opPutV (opPutV (bareO 5) 100 (rd .str l (a + 0))) 107 (rd .str l (a + 1)) = _
    rw [e0, e1]
    have b : opBareB (5, i, f, t, y, v) = true := hbare
    simp [opBareB, six] at b
    obtain ⟨⟨rfl, rfl⟩, rfl⟩ := b
    rfl
  · have e0 : rd .str l (a + 0) = i := hl 0 (by decide : (0 : Nat) < 2)
    have e1 : rd .str l (a + 1) = y := hl 1 (by decide : (1 : Nat) < 2)
    show opPutV (opPutV (bareO 6) 100 (rd .str l (a + 0))) 107 (rd .str l (a + 1)) = _
    rw [e0, e1]
    have b : opBareB (6, i, f, t, y, v) = true := hbare
    simp [opBareB, six] at b
    obtain ⟨⟨rfl, rfl⟩, rfl⟩ := b
    rfl
  · have e0 : rd .str l (a + 0) = i := hl 0 (by decide : (0 : Nat) < 2)
    have e1 : rd .str l (a + 1) = y := hl 1 (by decide : (1 : Nat) < 2)
    show opPutV (opPutV (bareO 7) 100 (rd .str l (a + 0))) 107 (rd .str l (a + 1)) = _
    rw [e0, e1]
    have b : opBareB (7, i, f, t, y, v) = true := hbare
    simp [opBareB, six] at b
    obtain ⟨⟨rfl, rfl⟩, rfl⟩ := b
    rfl
  · have e0 : rd .str l (a + 0) = i := hl 0 (by decide : (0 : Nat) < 2)
    have e1 : rd .str l (a + 1) = y := hl 1 (by decide : (1 : Nat) < 2)
    show opPutV (opPutV (bareO 8) 100 (rd .str l (a + 0))) 107 (rd .str l (a + 1)) = _
    rw [e0, e1]
    have b : opBareB (8, i, f, t, y, v) = true := hbare
    simp [opBareB, six] at b
    obtain ⟨⟨rfl, rfl⟩, rfl⟩ := b
    rfl
  · have e0 : rd .str l (a + 0) = i := hl 0 (by decide : (0 : Nat) < 3)
    have e1 : rd .str l (a + 1) = y := hl 1 (by decide : (1 : Nat) < 3)
    have e2 : rd .str l (a + 2) = showB v := hl 2 (by decide : (2 : Nat) < 3)
    show opPutV (opPutV (opPutV (bareO 9) 100 (rd .str l (a + 0))) 107 (rd .str l (a + 1))) 118 (rd .str l (a + 2)) = _
    rw [e0, e1, e2]
    have b : opBareB (9, i, f, t, y, v) = true := hbare
    simp [opBareB, six] at b
    have hv : valueB v = true := by have := hr; simp [rightB] at this; exact this.2.2
    obtain ⟨rfl, rfl⟩ := b
    show ((9, i, eS, eS, y, pvR (showB v)) : TOp) = _
    rw [pv_show hv hvn]
  · have e0 : rd .str l (a + 0) = i := hl 0 (by decide : (0 : Nat) < 2)
    have e1 : rd .str l (a + 1) = y := hl 1 (by decide : (1 : Nat) < 2)
    show opPutV (opPutV (bareO 10) 100 (rd .str l (a + 0))) 107 (rd .str l (a + 1)) = _
    rw [e0, e1]
    have b : opBareB (10, i, f, t, y, v) = true := hbare
    simp [opBareB, six] at b
    obtain ⟨⟨rfl, rfl⟩, rfl⟩ := b
    rfl
  · have e0 : rd .str l (a + 0) = i := hl 0 (by decide : (0 : Nat) < 3)
    have e1 : rd .str l (a + 1) = y := hl 1 (by decide : (1 : Nat) < 3)
    have e2 : rd .str l (a + 2) = showB v := hl 2 (by decide : (2 : Nat) < 3)
    show opPutV (opPutV (opPutV (bareO 11) 100 (rd .str l (a + 0))) 107 (rd .str l (a + 1))) 118 (rd .str l (a + 2)) = _
    rw [e0, e1, e2]
    have b : opBareB (11, i, f, t, y, v) = true := hbare
    simp [opBareB, six] at b
    have hv : valueB v = true := by have := hr; simp [rightB] at this; exact this.2.2
    obtain ⟨rfl, rfl⟩ := b
    show ((11, i, eS, eS, y, pvR (showB v)) : TOp) = _
    rw [pv_show hv hvn]
  · have e0 : rd .str l (a + 0) = i := hl 0 (by decide : (0 : Nat) < 2)
    have e1 : rd .str l (a + 1) = y := hl 1 (by decide : (1 : Nat) < 2)
    show opPutV (opPutV (bareO 12) 100 (rd .str l (a + 0))) 107 (rd .str l (a + 1)) = _
    rw [e0, e1]
    have b : opBareB (12, i, f, t, y, v) = true := hbare
    simp [opBareB, six] at b
    obtain ⟨⟨rfl, rfl⟩, rfl⟩ := b
    rfl
theorem opsR_words (l : List ByteArray) : ∀ (ops : List TOp) (n a : Nat), l.drop a = ops.flatMap opW → l.length ≤ a + n → (∀ o ∈ ops, okOp o ∧ opOK o = true) → opsR l n a = some ops
  | [], n, a, h, hn, ho => by
    have : l.length ≤ a := by
      have := congrArg List.length h
      simp at this; omega
    cases n with
    | zero => rfl
    | succ n => unfold opsR; rw [if_neg (by omega)]
  | o :: r, n, a, h, hn, ho => by
    obtain ⟨ho1, ho2⟩ := ho o List.mem_cons_self
    have hr : rightB o = true := by have := ho2; unfold opOK at this; simp only [Bool.and_eq_true] at this; exact this.1
    obtain ⟨k0, k1, _⟩ := right_kind hr
    obtain ⟨f1, f2⟩ := op_form o k0 k1
    rw [List.flatMap_cons] at h
    have hlen : l.length = a + (2 + (opFieldsV o).length + (r.flatMap opW).length) := by
      have q := congrArg List.length h
      rw [List.length_drop, List.length_append, show (opW o).length = 2 + (opFieldsV o).length by simp [opW]; omega] at q
      have : a < l.length := by
        apply Nat.lt_of_not_le; intro g
        rw [List.drop_eq_nil_of_le g] at h
        simp [opW] at h
      omega
    cases n with
    | zero => omega
    | succ n =>
      have e0 : rd .str l a = semi := by have := rd_drop l a 0; rw [h] at this; exact this.symm
      have e1 : rd .str l (a + 1) = signV o.1 := by have := rd_drop l a 1; rw [h] at this; exact this.symm
      have e2 : plS (rd .str l (a + 1)) = o.1 := by rw [e1, plS_sign k0 k1]
      have e3 : ∀ j, j < (opFieldsV o).length → rd .str l (a + 2 + j) = rd .str (opFieldsV o) j := fun j hj => by
        have := rd_drop l a (2 + j)
        rw [h] at this
        rw [show a + 2 + j = a + (2 + j) by omega, ← this]
        have e : rd .str (opW o ++ r.flatMap opW) (2 + j) = rd .str (opFieldsV o ++ r.flatMap opW) j := by
          show rd .str (semi :: signV o.1 :: (opFieldsV o ++ r.flatMap opW)) (2 + j) = _
          rw [Nat.add_comm]; rfl
        rw [e, rd_app _ _ _ hj]
      have e4 : opAt l a = o := by
        unfold opAt
        rw [e2]
        exact opPut_kind o ho1 ho2 l (a + 2) e3
      unfold opsR
      rw [if_pos (by omega), e4, e2, if_pos ⟨e0, f2, by omega⟩]
      have hd : l.drop (a + 2 + (opFormV o.1).size) = r.flatMap opW := by
        rw [show a + 2 + (opFormV o.1).size = a + (opW o).length by simp [opW, f1]; omega, ← List.drop_drop, h, List.drop_left' rfl]
      rw [opsR_words l r n _ hd (by omega) (fun o h => ho o (List.mem_cons_of_mem _ h))]; rfl
theorem putS_79 {o : ByteArray} (h : comB o = true ∨ o = eS) : putS 79 (optV o) = o := by
  rcases h with h | rfl
  · rw [optV_id (com_ne h)]; unfold putS
    rw [if_neg]; rintro ⟨rfl, _⟩; rw [com_no] at h; cases h
  · rfl
theorem putS_116 {t : ByteArray} (h : t = eS ∨ (nameB t = true ∧ t ≠ noS)) : putS 116 (optV t) = t := by
  rcases h with rfl | h
  · rfl
  · rw [optV_id (name_ne h.1)]; unfold putS
    rw [if_neg]; rintro ⟨g, _⟩; exact h.2 g
theorem putS_id {x : Int} {s : ByteArray} (h1 : x ≠ 79) (h2 : x ≠ 116) : putS x s = s := by unfold putS; rw [if_neg]; rintro ⟨_, g | g⟩; exact h1 g; exact h2 g
theorem put_kind (c : TCall) (h : isV c = true) (l : List ByteArray) (hl : ∀ j, j < (fieldsV c).length → rd .str l (1 + j) = rd .str (fieldsV c) j) : putF (bareK c.1) (formV c.1) l (formV c.1).size 0 = setOps c [] ∧ (formV c.1).size = (fieldsV c).length := by
  have hk := kind_in h
  obtain ⟨k, a, o, x, y, m, t, i⟩ := c
  have : k = 1 ∨ k = 2 ∨ k = 3 ∨ k = 4 ∨ k = 5 ∨ k = 6 ∨ k = 7 ∨ k = 8 ∨ k = 9 ∨ k = 10 ∨ k = 11 ∨ k = 12 ∨ k = 13 ∨ k = 14 ∨ k = 15 ∨ k = 16 ∨ k = 17 ∨ k = 18 ∨ k = 19 := by simp only at hk; omega
  rcases this with rfl | rfl | rfl | rfl | rfl | rfl | rfl | rfl | rfl | rfl | rfl | rfl | rfl | rfl | rfl | rfl | rfl | rfl | rfl
  · refine ⟨?_, rfl⟩
    have e0 : rd .str l (1 + 0) = a := hl 0 (by decide : (0 : Nat) < 3)
    have e1 : rd .str l (1 + 1) = optV o := hl 1 (by decide : (1 : Nat) < 3)
    have e2 : rd .str l (1 + 2) = optV t := hl 2 (by decide : (2 : Nat) < 3)
    show putV (putV (putV (bareK 1) 110 (putS 110 (rd .str l (1 + 0)))) 79 (putS 79 (rd .str l (1 + 1)))) 116 (putS 116 (rd .str l (1 + 2))) = _
    rw [e0, e1, e2, putS_id (x := 110) (by decide) (by decide), putS_79 (ik_1 h).2.1, putS_116 (ik_1 h).2.2.1]
    have q0 : x = eS := (ik_1 h).2.2.2.1
    have q1 : y = eS := (ik_1 h).2.2.2.2.1
    have q2 : i = eS := (ik_1 h).2.2.2.2.2.1
    subst q0
    subst q1
    subst q2
    rfl
  · refine ⟨?_, rfl⟩
    have e0 : rd .str l (1 + 0) = a := hl 0 (by decide : (0 : Nat) < 2)
    have e1 : rd .str l (1 + 1) = x := hl 1 (by decide : (1 : Nat) < 2)
    show putV (putV (bareK 2) 110 (putS 110 (rd .str l (1 + 0)))) 104 (putS 104 (rd .str l (1 + 1))) = _
    rw [e0, e1, putS_id (x := 110) (by decide) (by decide), putS_id (x := 104) (by decide) (by decide)]
    have q0 : o = eS := (ik_2 h).2.2.1
    have q1 : y = eS := (ik_2 h).2.2.2.1
    have q2 : i = eS := (ik_2 h).2.2.2.2.1
    have q3 : t = eS := (ik_2 h).2.2.2.2.2.1
    subst q0
    subst q1
    subst q2
    subst q3
    rfl
  · refine ⟨?_, rfl⟩
    have e0 : rd .str l (1 + 0) = a := hl 0 (by decide : (0 : Nat) < 2)
    have e1 : rd .str l (1 + 1) = x := hl 1 (by decide : (1 : Nat) < 2)
    show putV (putV (bareK 3) 110 (putS 110 (rd .str l (1 + 0)))) 104 (putS 104 (rd .str l (1 + 1))) = _
    rw [e0, e1, putS_id (x := 110) (by decide) (by decide), putS_id (x := 104) (by decide) (by decide)]
    have q0 : o = eS := (ik_3 h).2.2.1
    have q1 : y = eS := (ik_3 h).2.2.2.1
    have q2 : i = eS := (ik_3 h).2.2.2.2.1
    have q3 : t = eS := (ik_3 h).2.2.2.2.2.1
    subst q0
    subst q1
    subst q2
    subst q3
    rfl
  · refine ⟨?_, rfl⟩
    have e0 : rd .str l (1 + 0) = a := hl 0 (by decide : (0 : Nat) < 3)
    have e1 : rd .str l (1 + 1) = o := hl 1 (by decide : (1 : Nat) < 3)
    have e2 : rd .str l (1 + 2) = x := hl 2 (by decide : (2 : Nat) < 3)
    show putV (putV (putV (bareK 4) 110 (putS 110 (rd .str l (1 + 0)))) 111 (putS 111 (rd .str l (1 + 1)))) 104 (putS 104 (rd .str l (1 + 2))) = _
    rw [e0, e1, e2, putS_id (x := 110) (by decide) (by decide), putS_id (x := 111) (by decide) (by decide), putS_id (x := 104) (by decide) (by decide)]
    have q0 : y = eS := (ik_4 h).2.2.2.1
    have q1 : i = eS := (ik_4 h).2.2.2.2.1
    have q2 : t = eS := (ik_4 h).2.2.2.2.2.1
    subst q0
    subst q1
    subst q2
    rfl
  · refine ⟨?_, rfl⟩
    have e0 : rd .str l (1 + 0) = a := hl 0 (by decide : (0 : Nat) < 2)
    have e1 : rd .str l (1 + 1) = o := hl 1 (by decide : (1 : Nat) < 2)
    show putV (putV (bareK 5) 110 (putS 110 (rd .str l (1 + 0)))) 111 (putS 111 (rd .str l (1 + 1))) = _
    rw [e0, e1, putS_id (x := 110) (by decide) (by decide), putS_id (x := 111) (by decide) (by decide)]
    have q0 : x = eS := (ik_5 h).2.2.1
    have q1 : y = eS := (ik_5 h).2.2.2.1
    have q2 : i = eS := (ik_5 h).2.2.2.2.1
    have q3 : t = eS := (ik_5 h).2.2.2.2.2.1
    subst q0
    subst q1
    subst q2
    subst q3
    rfl
  · refine ⟨?_, rfl⟩
    have e0 : rd .str l (1 + 0) = a := hl 0 (by decide : (0 : Nat) < 2)
    have e1 : rd .str l (1 + 1) = o := hl 1 (by decide : (1 : Nat) < 2)
    show putV (putV (bareK 6) 110 (putS 110 (rd .str l (1 + 0)))) 111 (putS 111 (rd .str l (1 + 1))) = _
    rw [e0, e1, putS_id (x := 110) (by decide) (by decide), putS_id (x := 111) (by decide) (by decide)]
    have q0 : x = eS := (ik_6 h).2.2.1
    have q1 : y = eS := (ik_6 h).2.2.2.1
    have q2 : i = eS := (ik_6 h).2.2.2.2.1
    have q3 : t = eS := (ik_6 h).2.2.2.2.2.1
    subst q0
    subst q1
    subst q2
    subst q3
    rfl
  · refine ⟨?_, rfl⟩
    have e0 : rd .str l (1 + 0) = x := hl 0 (by decide : (0 : Nat) < 1)
    show putV (bareK 7) 104 (putS 104 (rd .str l (1 + 0))) = _
    rw [e0, putS_id (x := 104) (by decide) (by decide)]
    have q0 : a = eS := (ik_7 h).2.1
    have q1 : o = eS := (ik_7 h).2.2.1
    have q2 : y = eS := (ik_7 h).2.2.2.1
    have q3 : i = eS := (ik_7 h).2.2.2.2.1
    have q4 : t = eS := (ik_7 h).2.2.2.2.2.1
    subst q0
    subst q1
    subst q2
    subst q3
    subst q4
    rfl
  · refine ⟨?_, rfl⟩
    have e0 : rd .str l (1 + 0) = x := hl 0 (by decide : (0 : Nat) < 2)
    have e1 : rd .str l (1 + 1) = i := hl 1 (by decide : (1 : Nat) < 2)
    show putV (putV (bareK 8) 104 (putS 104 (rd .str l (1 + 0)))) 105 (putS 105 (rd .str l (1 + 1))) = _
    rw [e0, e1, putS_id (x := 104) (by decide) (by decide), putS_id (x := 105) (by decide) (by decide)]
    have q0 : a = eS := (ik_8 h).2.2.1
    have q1 : o = eS := (ik_8 h).2.2.2.1
    have q2 : y = eS := (ik_8 h).2.2.2.2.1
    have q3 : t = eS := (ik_8 h).2.2.2.2.2.1
    subst q0
    subst q1
    subst q2
    subst q3
    rfl
  · refine ⟨?_, rfl⟩
    have e0 : rd .str l (1 + 0) = x := hl 0 (by decide : (0 : Nat) < 2)
    have e1 : rd .str l (1 + 1) = i := hl 1 (by decide : (1 : Nat) < 2)
    show putV (putV (bareK 9) 104 (putS 104 (rd .str l (1 + 0)))) 105 (putS 105 (rd .str l (1 + 1))) = _
    rw [e0, e1, putS_id (x := 104) (by decide) (by decide), putS_id (x := 105) (by decide) (by decide)]
    have q0 : a = eS := (ik_9 h).2.2.1
    have q1 : o = eS := (ik_9 h).2.2.2.1
    have q2 : y = eS := (ik_9 h).2.2.2.2.1
    have q3 : t = eS := (ik_9 h).2.2.2.2.2.1
    subst q0
    subst q1
    subst q2
    subst q3
    rfl
  · refine ⟨?_, rfl⟩
    have e0 : rd .str l (1 + 0) = x := hl 0 (by decide : (0 : Nat) < 2)
    have e1 : rd .str l (1 + 1) = i := hl 1 (by decide : (1 : Nat) < 2)
    show putV (putV (bareK 10) 104 (putS 104 (rd .str l (1 + 0)))) 105 (putS 105 (rd .str l (1 + 1))) = _
    rw [e0, e1, putS_id (x := 104) (by decide) (by decide), putS_id (x := 105) (by decide) (by decide)]
    have q0 : a = eS := (ik_10 h).2.2.1
    have q1 : o = eS := (ik_10 h).2.2.2.1
    have q2 : y = eS := (ik_10 h).2.2.2.2.1
    have q3 : t = eS := (ik_10 h).2.2.2.2.2.1
    subst q0
    subst q1
    subst q2
    subst q3
    rfl
  · refine ⟨?_, rfl⟩
    have e0 : rd .str l (1 + 0) = x := hl 0 (by decide : (0 : Nat) < 2)
    have e1 : rd .str l (1 + 1) = i := hl 1 (by decide : (1 : Nat) < 2)
    show putV (putV (bareK 11) 104 (putS 104 (rd .str l (1 + 0)))) 105 (putS 105 (rd .str l (1 + 1))) = _
    rw [e0, e1, putS_id (x := 104) (by decide) (by decide), putS_id (x := 105) (by decide) (by decide)]
    have q0 : a = eS := (ik_11 h).2.2.1
    have q1 : o = eS := (ik_11 h).2.2.2.1
    have q2 : y = eS := (ik_11 h).2.2.2.2.1
    have q3 : t = eS := (ik_11 h).2.2.2.2.2.1
    subst q0
    subst q1
    subst q2
    subst q3
    rfl
  · refine ⟨?_, rfl⟩
    have e0 : rd .str l (1 + 0) = x := hl 0 (by decide : (0 : Nat) < 2)
    have e1 : rd .str l (1 + 1) = y := hl 1 (by decide : (1 : Nat) < 2)
    show putV (putV (bareK 12) 104 (putS 104 (rd .str l (1 + 0)))) 120 (putS 120 (rd .str l (1 + 1))) = _
    rw [e0, e1, putS_id (x := 104) (by decide) (by decide), putS_id (x := 120) (by decide) (by decide)]
    have q0 : a = eS := (ik_12 h).2.2.1
    have q1 : o = eS := (ik_12 h).2.2.2.1
    have q2 : i = eS := (ik_12 h).2.2.2.2.1
    have q3 : t = eS := (ik_12 h).2.2.2.2.2.1
    subst q0
    subst q1
    subst q2
    subst q3
    rfl
  · refine ⟨?_, rfl⟩
    have e0 : rd .str l (1 + 0) = a := hl 0 (by decide : (0 : Nat) < 4)
    have e1 : rd .str l (1 + 1) = o := hl 1 (by decide : (1 : Nat) < 4)
    have e2 : rd .str l (1 + 2) = x := hl 2 (by decide : (2 : Nat) < 4)
    have e3 : rd .str l (1 + 3) = optV t := hl 3 (by decide : (3 : Nat) < 4)
    show putV (putV (putV (putV (bareK 13) 110 (putS 110 (rd .str l (1 + 0)))) 111 (putS 111 (rd .str l (1 + 1)))) 104 (putS 104 (rd .str l (1 + 2)))) 116 (putS 116 (rd .str l (1 + 3))) = _
    rw [e0, e1, e2, e3, putS_id (x := 110) (by decide) (by decide), putS_id (x := 111) (by decide) (by decide), putS_id (x := 104) (by decide) (by decide), putS_116 (ik_13 h).2.2.2.1]
    have q0 : y = eS := (ik_13 h).2.2.2.2.1
    have q1 : i = eS := (ik_13 h).2.2.2.2.2.1
    subst q0
    subst q1
    rfl
  · refine ⟨?_, rfl⟩
    have e0 : rd .str l (1 + 0) = x := hl 0 (by decide : (0 : Nat) < 2)
    have e1 : rd .str l (1 + 1) = y := hl 1 (by decide : (1 : Nat) < 2)
    show putV (putV (bareK 14) 104 (putS 104 (rd .str l (1 + 0)))) 120 (putS 120 (rd .str l (1 + 1))) = _
    rw [e0, e1, putS_id (x := 104) (by decide) (by decide), putS_id (x := 120) (by decide) (by decide)]
    have q0 : a = eS := (ik_14 h).2.2.1
    have q1 : o = eS := (ik_14 h).2.2.2.1
    have q2 : i = eS := (ik_14 h).2.2.2.2.1
    have q3 : t = eS := (ik_14 h).2.2.2.2.2.1
    subst q0
    subst q1
    subst q2
    subst q3
    rfl
  · refine ⟨?_, rfl⟩
    have e0 : rd .str l (1 + 0) = x := hl 0 (by decide : (0 : Nat) < 1)
    show putV (bareK 15) 104 (putS 104 (rd .str l (1 + 0))) = _
    rw [e0, putS_id (x := 104) (by decide) (by decide)]
    have q0 : a = eS := (ik_15 h).2.1
    have q1 : o = eS := (ik_15 h).2.2.1
    have q2 : y = eS := (ik_15 h).2.2.2.1
    have q3 : i = eS := (ik_15 h).2.2.2.2.1
    have q4 : t = eS := (ik_15 h).2.2.2.2.2.1
    subst q0
    subst q1
    subst q2
    subst q3
    subst q4
    rfl
  · refine ⟨?_, rfl⟩
    have q0 : a = eS := (ik_16 h).1
    have q1 : o = eS := (ik_16 h).2.1
    have q2 : x = eS := (ik_16 h).2.2.1
    have q3 : y = eS := (ik_16 h).2.2.2.1
    have q4 : i = eS := (ik_16 h).2.2.2.2.1
    have q5 : t = eS := (ik_16 h).2.2.2.2.2.1
    subst q0
    subst q1
    subst q2
    subst q3
    subst q4
    subst q5
    rfl
  · refine ⟨?_, rfl⟩
    have q0 : a = eS := (ik_17 h).1
    have q1 : o = eS := (ik_17 h).2.1
    have q2 : x = eS := (ik_17 h).2.2.1
    have q3 : y = eS := (ik_17 h).2.2.2.1
    have q4 : i = eS := (ik_17 h).2.2.2.2.1
    have q5 : t = eS := (ik_17 h).2.2.2.2.2.1
    subst q0
    subst q1
    subst q2
    subst q3
    subst q4
    subst q5
    rfl
  · refine ⟨?_, rfl⟩
    have q0 : a = eS := (ik_18 h).1
    have q1 : o = eS := (ik_18 h).2.1
    have q2 : x = eS := (ik_18 h).2.2.1
    have q3 : y = eS := (ik_18 h).2.2.2.1
    have q4 : i = eS := (ik_18 h).2.2.2.2.1
    have q5 : t = eS := (ik_18 h).2.2.2.2.2.1
    subst q0
    subst q1
    subst q2
    subst q3
    subst q4
    subst q5
    rfl
  · refine ⟨?_, rfl⟩
    have q0 : a = eS := (ik_19 h).1
    have q1 : o = eS := (ik_19 h).2.1
    have q2 : x = eS := (ik_19 h).2.2.1
    have q3 : y = eS := (ik_19 h).2.2.2.1
    have q4 : i = eS := (ik_19 h).2.2.2.2.1
    have q5 : t = eS := (ik_19 h).2.2.2.2.2.1
    subst q0
    subst q1
    subst q2
    subst q3
    subst q4
    subst q5
    rfl
theorem form_ne {c : TCall} (h : isV c = true) : formV c.1 ≠ qS := by
  unfold isV at h
  simp only [Bool.and_eq_true, Bool.not_eq_true', decide_eq_false_iff_not] at h
  exact h.1
theorem ref_back {c : TCall} (hc : okC c) (h : isV c = true) : rawR (showV c) = (c, true) := by
  obtain ⟨k0, k1⟩ := kind_in h
  have hw : splitR (showV c) = wordV c.1 :: wordsV c := by
    unfold showV
    refine splitR_words _ _ (fun z hz => ?_)
    rcases List.mem_cons.1 hz with rfl | hz
    · exact (word_cl _).1.1
    · rcases List.mem_append.1 hz with g | g
      · exact (fields_cl h z g).1
      · obtain ⟨o, ho, g⟩ := List.mem_flatMap.1 g
        rcases List.mem_cons.1 g with rfl | g
        · decide
        · rcases List.mem_cons.1 g with rfl | g
          · exact (sign_cl _).1.1
          · exact (opFields_cl (hc.ops o ho).vn (List.all_eq_true.1 (is_ops h).2.1 o ho) z g).1
  have hk : kindR (showV c) = c.1 := by
    show plW (rd .str (splitR (showV c)) 0) = _
    rw [hw]; exact plW_word k0 k1
  have hrd : ∀ j, j < (fieldsV c).length → rd .str (splitR (showV c)) (1 + j) = rd .str (fieldsV c) j := fun j hj => by
    rw [hw, Nat.add_comm]
    show rd .str (fieldsV c ++ (cOps c).flatMap opW) j = _
    exact rd_app _ _ _ hj
  obtain ⟨p1, p2⟩ := put_kind c h (splitR (showV c)) hrd
  have hd : (splitR (showV c)).drop (1 + (formV c.1).size) = (cOps c).flatMap opW := by
    rw [hw, p2, Nat.add_comm]
    show (fieldsV c ++ (cOps c).flatMap opW).drop (fieldsV c).length = _
    exact List.drop_left' rfl
  have hl : (splitR (showV c)).length = 1 + ((fieldsV c).length + ((cOps c).flatMap opW).length) := by
    rw [hw]; show (wordV c.1 :: (fieldsV c ++ (cOps c).flatMap opW)).length = _
    rw [List.length_cons, List.length_append]; omega
  have ho := opsR_words (splitR (showV c)) (cOps c) (splitR (showV c)).length (1 + (formV c.1).size) hd (by omega) (fun o ho => ⟨hc.ops o ho, List.all_eq_true.1 (is_ops h).2.1 o ho⟩)
  unfold rawR
  rw [hk, if_neg (fun g => g.elim (form_ne h) (fun g => by omega)), p1, ho]
  show finR (showV c) (setOps (setOps c []) ([] ++ cOps c)) = _
  unfold finR
  rw [show setOps (setOps c []) ([] ++ cOps c) = c from rfl, h, if_pos rfl, if_pos rfl]
end Go.Proofs.YthbaafcoidjflaaGreatDoor.AE
end
section
set_option linter.unusedVariables false
set_option linter.unusedSimpArgs false
set_option maxRecDepth 20000
namespace Go.Proofs.YthbaafcoidjflaaGreatDoor.AE
open Go
theorem finR_cases (s : ByteArray) (c : TCall) (hc : okC c) (hs : s ≠ eS) : finR s c = (zC, false) ∨ ∃ c', finR s c = (c', true) ∧ okC c' ∧ isV c' = true ∧ showV c' = s := by
  unfold finR
  cases h : isV c with
  | false =>
    left
    exact if_neg (fun g => hs g.symm)
  | true =>
    rw [if_pos rfl]
    by_cases g : showV c = s
    · exact .inr ⟨c, if_pos g, hc, h, g⟩
    · exact .inl (if_neg g)
theorem ok_opsR {l : List ByteArray} (hz : ∀ z ∈ l, z.size ≤ 1000000) : ∀ (n a : Nat) (r : List TOp), opsR l n a = some r → r.length ≤ n ∧ ∀ o ∈ r, okOp o
  | 0, a, r, h => by cases h; exact ⟨Nat.le_refl _, fun _ h => absurd h List.not_mem_nil⟩
  | n + 1, a, r, h => by
    unfold opsR at h
    split at h
    · split at h
      · cases g : opsR l n (a + 2 + (opFormV (plS (rd .str l (a + 1)))).size) with
        | none => rw [g] at h; cases h
        | some q =>
          rw [g] at h
          cases h
          obtain ⟨h1, h2⟩ := ok_opsR hz n _ q g
          refine ⟨by simp; omega, fun o ho => ?_⟩
          rcases List.mem_cons.1 ho with rfl | ho
          · exact ok_at hz a
          · exact h2 o ho
      · cases h
    · cases h; exact ⟨Nat.zero_le _, fun _ h => absurd h List.not_mem_nil⟩
theorem rawR_cases (s : ByteArray) (hs : s.size ≤ 400000) : rawR s = (zC, false) ∨ ∃ c, rawR s = (c, true) ∧ okC c ∧ isV c = true ∧ showV c = s := by
  by_cases he : s = eS
  · left
    subst he
    unfold rawR
    rw [if_pos (.inl (by decide))]
  · obtain ⟨l0, l1⟩ := splitR_len s
    have hz : ∀ z ∈ splitR s, z.size ≤ 1000000 := fun z h => by have := splitR_small h; omega
    have hsm := sm_putF (f := formV (kindR s)) hz (formV (kindR s)).size 0 _ (sm_bare (kindR s) 1000000)
    unfold rawR
    split
    · exact .inl rfl
    · generalize putF (bareK (kindR s)) (formV (kindR s)) (splitR s) (formV (kindR s)).size 0 = c at hsm ⊢
      unfold endR
      cases g : opsR (splitR s) (splitR s).length (1 + (formV (kindR s)).size) with
      | none => exact .inl rfl
      | some r =>
        obtain ⟨h1, h2⟩ := ok_opsR hz _ _ _ g
        have hk : okC (setOps c r) := ok2 hsm (by omega) h2
        simp only [List.nil_append]
        exact finR_cases s (setOps c r) hk he
theorem LineParses_pure (s : ByteArray) (hg : Gd .str s) : V.pleachlaw43_LineParses s = some true := by
  apply V.pleachlaw43_LineParses.of; unfold F.pleachlaw43_LineParses.B
  rw [awake43]
  by_cases h : (s.size : Int) > 2000
  · rw [if_yes h]; rfl
  · have hs : s.size ≤ 400000 := by omega
    rw [if_no h, lParse_ok s hs, Option.bind_some, lrParse_ok s (by omega), Option.bind_some]
    rcases fin_cases s with h1 | ⟨h1, h2, h3⟩
    · rcases rawR_cases s hs with g | ⟨c, g1, g2, g3, g4⟩
      · rw [h1, g]
        have hS : V.pleachref43_Same (zC.1, zC.2.1, zC.2.2.1, zC.2.2.2.1, zC.2.2.2.2.1, zC.2.2.2.2.2.1, zC.2.2.2.2.2.2.1, zC.2.2.2.2.2.2.2) (zC.1, zC.2.1, zC.2.2.1, zC.2.2.2.1, zC.2.2.2.2.1, zC.2.2.2.2.2.1, zC.2.2.2.2.2.2.1, zC.2.2.2.2.2.2.2) = some true := by
          rw [← same_self zC]; exact rSame_ok zC zC (Nat.zero_le _)
        rw [hS, Option.bind_some]; rfl
      · have := read_back g2 g3
        rw [g4, h1] at this
        have this : (17 : Int) = 0 := congrArg Prod.snd this
        exact absurd this (by decide)
    · have hk := raw_okC s hs
      rw [h3]
      generalize rawV s = c at h1 h2 hk ⊢
      have g := ref_back hk h1
      rw [h2] at g
      rw [g]
      have hS : V.pleachref43_Same (c.1, c.2.1, c.2.2.1, c.2.2.2.1, c.2.2.2.2.1, c.2.2.2.2.2.1, c.2.2.2.2.2.2.1, c.2.2.2.2.2.2.2) (c.1, c.2.1, c.2.2.1, c.2.2.2.1, c.2.2.2.2.1, c.2.2.2.2.2.1, c.2.2.2.2.2.2.1, c.2.2.2.2.2.2.2) = some true := by
        rw [← same_self c]; exact rSame_ok c c hk.l
      rw [hS, Option.bind_some]; rfl
end Go.Proofs.YthbaafcoidjflaaGreatDoor.AE
end
section
namespace Go.Proofs.YthbaafcoidjflaaGreatDoor.AE
open Go Go.ChangeShapes Go.WideShapes Go.ChangeAt Go.RowKit Go.Lib Go.Sort
variable {W₀ : World}
theorem weights_each {H : Type} {P : Program} {p : Nat → Bool} {ts : List TypeId} {ds : List (DataW H)} (h : (DataW.weightsEach P ts ds).all p = true) {j : Nat} {t : TypeId} {d : DataW H} (ht : ts[j]? = some t) (hd : ds[j]? = some d) : ∀ n ∈ d.weights P t, p n = true :=
  fun n hn => List.all_eq_true.1 h _ (DataW.weights_mem_each ht hd n hn)
theorem own : ownKnob Tryz.prog.godebug = none := by kernel_rfl
theorem laidOut : laidOutB Tryz.prog = true := by kernel_rfl
theorem mix : Tryz.prog.follows .mixedOrders = true := by kernel_rfl
theorem numGoB : (Tryz.prog.funcs.all fun fn => !(fn.name == "runtime.NumGoroutine")) = true := by kernel_rfl
theorem num (f : FuncId) (fn : Func) (h : Tryz.prog.funcs[f]? = some fn) : (fn.name == "runtime.NumGoroutine") = false := by
  have := Array.all_eq_true_iff_forall_mem.1 numGoB fn (Array.mem_of_getElem? h)
  simpa using this
def layAtoi_ren : Go.Shelf.Ren := ⟨fun i => match i with | 129 => 131 | 171 => 55 | 172 => 100 | 205 => 148 | 243 => 76 | 244 => 119 | 245 => 120 | 246 => 95 | 247 => 136 | 279 => 137 | 280 => 138 | 281 => 139 | 282 => 140 | 283 => 114 | 284 => 115 | 285 => 116 | 286 => 117 | 287 => 146 | 316 => 147 | 317 => 130 | 318 => 132 | 319 => 133 | 320 => 134 | 321 => 149 | 322 => 150 | 337 => 144 | 338 => 145 | _ => 0, fun i => match i with | 0 => 0 | 2 => 2 | 3 => 3 | 4 => 4 | 5 => 5 | 9 => 9 | 20 => 20 | 21 => 21 | 37 => 89 | 46 => 126 | 51 => 151 | 53 => 112 | 75 => 94 | 76 => 95 | 80 => 97 | 85 => 157 | 127 => 115 | 143 => 177 | 145 => 179 | 167 => 156 | 168 => 159 | 171 => 140 | 173 => 143 | 175 => 170 | 210 => 173 | 212 => 150 | 213 => 152 | 232 => 175 | 233 => 176 | _ => 0, fun i => match i with | 15 => 4 | 16 => 5 | 17 => 1 | 18 => 6 | 19 => 7 | _ => 0⟩
set_option maxRecDepth 100000 in
theorem layAtoi : Go.Proofs.LaysC.n172 Tryz.prog layAtoi_ren where
  mixed := mix
  f129 := Tryz.func131.trans (congrArg some (by kernel_rfl))
  f171 := Tryz.func55.trans (congrArg some (by kernel_rfl))
  f172 := Tryz.func100.trans (congrArg some (by kernel_rfl))
  f205 := Tryz.func148.trans (congrArg some (by kernel_rfl))
  f243 := Tryz.func76.trans (congrArg some (by kernel_rfl))
  f244 := Tryz.func119.trans (congrArg some (by kernel_rfl))
  f245 := Tryz.func120.trans (congrArg some (by kernel_rfl))
  f246 := Tryz.func95.trans (congrArg some (by kernel_rfl))
  f247 := Tryz.func136.trans (congrArg some (by kernel_rfl))
  f279 := Tryz.func137.trans (congrArg some (by kernel_rfl))
  f280 := Tryz.func138.trans (congrArg some (by kernel_rfl))
  f281 := Tryz.func139.trans (congrArg some (by kernel_rfl))
  f282 := Tryz.func140.trans (congrArg some (by kernel_rfl))
  f283 := Tryz.func114.trans (congrArg some (by kernel_rfl))
  f284 := Tryz.func115.trans (congrArg some (by kernel_rfl))
  f285 := Tryz.func116.trans (congrArg some (by kernel_rfl))
  f286 := Tryz.func117.trans (congrArg some (by kernel_rfl))
  f287 := Tryz.func146.trans (congrArg some (by kernel_rfl))
  f316 := Tryz.func147.trans (congrArg some (by kernel_rfl))
  f317 := Tryz.func130.trans (congrArg some (by kernel_rfl))
  f318 := Tryz.func132.trans (congrArg some (by kernel_rfl))
  f319 := Tryz.func133.trans (congrArg some (by kernel_rfl))
  f320 := Tryz.func134.trans (congrArg some (by kernel_rfl))
  f321 := Tryz.func149.trans (congrArg some (by kernel_rfl))
  f322 := Tryz.func150.trans (congrArg some (by kernel_rfl))
  f337 := Tryz.func144.trans (congrArg some (by kernel_rfl))
  f338 := Tryz.func145.trans (congrArg some (by kernel_rfl))
  t0 := by kernel_rfl
  a0 := by intro w; kernel_rfl
  z0 := by intro w; kernel_rfl
  v0 := by intro w; kernel_rfl
  t2 := by kernel_rfl
  a2 := by intro w; kernel_rfl
  z2 := by intro w; kernel_rfl
  v2 := by intro w; kernel_rfl
  t3 := by kernel_rfl
  a3 := by intro w; kernel_rfl
  z3 := by intro w; kernel_rfl
  v3 := by intro w; kernel_rfl
  t4 := by kernel_rfl
  a4 := by intro w; kernel_rfl
  z4 := by intro w; kernel_rfl
  v4 := by intro w; kernel_rfl
  t5 := by kernel_rfl
  a5 := by intro w; kernel_rfl
  z5 := by intro w; kernel_rfl
  v5 := by intro w; kernel_rfl
  t9 := by kernel_rfl
  a9 := by intro w; kernel_rfl
  z9 := by intro w; kernel_rfl
  v9 := by intro w; kernel_rfl
  t20 := by kernel_rfl
  a20 := by intro w; kernel_rfl
  z20 := by intro w; kernel_rfl
  v20 := by intro w; kernel_rfl
  t21 := by kernel_rfl
  a21 := by intro w; kernel_rfl
  z21 := by intro w; kernel_rfl
  v21 := by intro w; kernel_rfl
  t37 := by kernel_rfl
  a37 := by intro w; kernel_rfl
  z37 := by intro w; kernel_rfl
  v37 := by intro w; kernel_rfl
  t46 := by kernel_rfl
  a46 := by intro w; kernel_rfl
  z46 := by intro w; kernel_rfl
  v46 := by intro w; kernel_rfl
  t51 := by kernel_rfl
  a51 := by intro w; kernel_rfl
  z51 := by intro w; kernel_rfl
  v51 := by intro w; kernel_rfl
  t53 := by kernel_rfl
  a53 := by intro w; kernel_rfl
  z53 := by intro w; kernel_rfl
  v53 := by intro w; kernel_rfl
  t75 := by kernel_rfl
  a75 := by intro w; kernel_rfl
  z75 := by intro w; kernel_rfl
  v75 := by intro w; kernel_rfl
  t76 := by kernel_rfl
  a76 := by intro w; kernel_rfl
  z76 := by intro w; kernel_rfl
  v76 := by intro w; kernel_rfl
  t85 := by kernel_rfl
  a85 := by intro w; kernel_rfl
  z85 := by intro w; kernel_rfl
  v85 := by intro w; kernel_rfl
  t127 := by kernel_rfl
  a127 := by intro w; kernel_rfl
  z127 := by intro w; kernel_rfl
  v127 := by intro w; kernel_rfl
  t143 := by kernel_rfl
  a143 := by intro w; kernel_rfl
  z143 := by intro w; kernel_rfl
  v143 := by intro w; kernel_rfl
  t145 := by kernel_rfl
  a145 := by intro w; kernel_rfl
  z145 := by intro w; kernel_rfl
  v145 := by intro w; kernel_rfl
  t167 := by kernel_rfl
  a167 := by intro w; kernel_rfl
  z167 := by intro w; kernel_rfl
  v167 := by intro w; kernel_rfl
  t168 := by kernel_rfl
  a168 := by intro w; kernel_rfl
  z168 := by intro w; kernel_rfl
  v168 := by intro w; kernel_rfl
  t171 := by kernel_rfl
  a171 := by intro w; kernel_rfl
  z171 := by intro w; kernel_rfl
  v171 := by intro w; kernel_rfl
  t173 := by kernel_rfl
  a173 := by intro w; kernel_rfl
  z173 := by intro w; kernel_rfl
  v173 := by intro w; kernel_rfl
  t175 := by kernel_rfl
  a175 := by intro w; kernel_rfl
  z175 := by intro w; kernel_rfl
  v175 := by intro w; kernel_rfl
  t210 := by kernel_rfl
  a210 := by intro w; kernel_rfl
  z210 := by intro w; kernel_rfl
  v210 := by intro w; kernel_rfl
  t212 := by kernel_rfl
  a212 := by intro w; kernel_rfl
  z212 := by intro w; kernel_rfl
  v212 := by intro w; kernel_rfl
  t213 := by kernel_rfl
  a213 := by intro w; kernel_rfl
  z213 := by intro w; kernel_rfl
  t232 := by kernel_rfl
  a232 := by intro w; kernel_rfl
  z232 := by intro w; kernel_rfl
  v232 := by intro w; kernel_rfl
  t233 := by kernel_rfl
  a233 := by intro w; kernel_rfl
  z233 := by intro w; kernel_rfl
  v233 := by intro w; kernel_rfl
  g15 := by kernel_rfl
  g16 := by kernel_rfl
  g17 := by kernel_rfl
  g18 := by kernel_rfl
  g19 := by kernel_rfl
  t80 := by kernel_rfl
  a80 := by intro w; kernel_rfl
  z80 := by intro w; kernel_rfl
  v80 := by intro w; kernel_rfl
  i0 := by kernel_rfl
  i2 := by kernel_rfl
  i3 := by kernel_rfl
  i4 := by kernel_rfl
  i5 := by kernel_rfl
  i9 := by kernel_rfl
  i20 := by kernel_rfl
  i21 := by kernel_rfl
  i37 := by kernel_rfl
  i46 := by kernel_rfl
  i51 := by kernel_rfl
  i53 := by kernel_rfl
  i75 := by kernel_rfl
  i76 := by kernel_rfl
  i80 := by kernel_rfl
  i85 := by kernel_rfl
  i127 := by kernel_rfl
  i143 := by kernel_rfl
  i145 := by kernel_rfl
  i167 := by kernel_rfl
  i168 := by kernel_rfl
  i171 := by kernel_rfl
  i173 := by kernel_rfl
  i175 := by kernel_rfl
  i210 := by kernel_rfl
  i212 := by kernel_rfl
  i232 := by kernel_rfl
  i233 := by kernel_rfl
  m15 := by kernel_rfl
  m16 := by kernel_rfl
  m17 := by kernel_rfl
  m18 := by kernel_rfl
  m19 := by kernel_rfl
  c0 := by kernel_rfl
  c2 := by kernel_rfl
  c3 := by kernel_rfl
  c4 := by kernel_rfl
  c5 := by kernel_rfl
  c9 := by kernel_rfl
  c20 := by kernel_rfl
  c21 := by kernel_rfl
  c37 := by kernel_rfl
  c46 := by kernel_rfl
  c51 := by kernel_rfl
  c53 := by kernel_rfl
  c75 := by kernel_rfl
  c76 := by kernel_rfl
  c80 := by kernel_rfl
  c85 := by kernel_rfl
  c127 := by kernel_rfl
  c143 := by kernel_rfl
  c145 := by kernel_rfl
  c167 := by kernel_rfl
  c168 := by kernel_rfl
  c171 := by kernel_rfl
  c173 := by kernel_rfl
  c175 := by kernel_rfl
  c210 := by kernel_rfl
  c212 := by kernel_rfl
  c213 := by kernel_rfl
  c232 := by kernel_rfl
  c233 := by kernel_rfl
theorem starErr : "*" ++ "errors.errorString" = "*errors.errorString" := by decide
theorem rowErr (u : TypeId) (h : Tryz.prog.typeName? 3 u = some "*errors.errorString") : u = 177 :=
  typeName_ptr_named (nm := "errors.errorString") (by rw [starErr]; kernel_rfl) (by kernel_rfl) (by decide) u (by rw [starErr]; exact h)
def layCont_ren : Go.Shelf.Ren := ⟨fun i => match i with | 15 => 118 | 17 => 96 | 20 => 135 | _ => 0, fun i => match i with | 0 => 0 | 2 => 2 | 3 => 3 | 4 => 4 | 5 => 5 | 9 => 9 | 20 => 20 | 21 => 21 | 23 => 125 | 80 => 97 | _ => 0, fun x => x⟩
set_option maxRecDepth 100000 in
theorem layCont : Go.Proofs.LaysGw.n17 Tryz.prog layCont_ren where
  mixed := mix
  f15 := Tryz.func118.trans (congrArg some (by kernel_rfl))
  f17 := Tryz.func96.trans (congrArg some (by kernel_rfl))
  f20 := Tryz.func135.trans (congrArg some (by kernel_rfl))
  t0 := by kernel_rfl
  a0 := by intro w; kernel_rfl
  z0 := by intro w; kernel_rfl
  v0 := by intro w; kernel_rfl
  i0 := by kernel_rfl
  t3 := by kernel_rfl
  a3 := by intro w; kernel_rfl
  z3 := by intro w; kernel_rfl
  v3 := by intro w; kernel_rfl
  i3 := by kernel_rfl
  t4 := by kernel_rfl
  a4 := by intro w; kernel_rfl
  z4 := by intro w; kernel_rfl
  v4 := by intro w; kernel_rfl
  i4 := by kernel_rfl
  t9 := by kernel_rfl
  a9 := by intro w; kernel_rfl
  z9 := by intro w; kernel_rfl
  v9 := by intro w; kernel_rfl
  i9 := by kernel_rfl
  t21 := by kernel_rfl
  a21 := by intro w; kernel_rfl
  z21 := by intro w; kernel_rfl
  v21 := by intro w; kernel_rfl
  i21 := by kernel_rfl
  t23 := by kernel_rfl
  a23 := by intro w; kernel_rfl
  z23 := by intro w; kernel_rfl
  v23 := by intro w; kernel_rfl
  i23 := by kernel_rfl
theorem pred97 (w : World) : PredAt Tryz.prog 97 #[] encR badR w := by
  intro W x hb
  unfold FnGives
  show Calls Tryz.prog 97 #[.int .i32 (x : Int)] W _
  go_enter Tryz.func97, Tryz.ntmps97
  go_wp2
  all_goals
    go_ret
    refine ⟨congrArg (fun b => Ending.returned (Value.bool b)) ?_, 0, rfl⟩
    simp only [badR]
    rw [Bool.eq_iff_iff]
    simp
    try omega
def rho88 : Go.Shelf.Ren := ⟨fun i => match i with | 29 => 105 | _ => 106, fun i => match i with | 24 => 77 | 9 => 111 | 3 => 3 | 4 => 4 | _ => 0, fun x => x⟩
theorem ins88 : InsOk Tryz.prog rho88 88 "slices.Insert[[]pleach/api.Prop,pleach/api.Prop]" Tryz.f105 sProp := by
  refine ⟨⟨mix, Tryz.func88.trans (congrArg some (by kernel_rfl)), Tryz.func105, by kernel_rfl, by kernel_rfl, by kernel_rfl, by kernel_rfl, by kernel_rfl, by kernel_rfl, by kernel_rfl, by kernel_rfl, by kernel_rfl, by decide⟩, by kernel_rfl, by kernel_rfl, by kernel_rfl, by kernel_rfl, by decide⟩
def layItoa_ren : Go.Shelf.Ren := ⟨fun i => match i with | 129 => 131 | 171 => 55 | 243 => 76 | 246 => 95 | 283 => 114 | 284 => 115 | 285 => 116 | 286 => 117 | 317 => 130 | 318 => 132 | 319 => 133 | 320 => 134 | 337 => 144 | 338 => 145 | _ => 0, fun i => match i with | 0 => 0 | 2 => 2 | 3 => 3 | 4 => 4 | 5 => 5 | 9 => 9 | 20 => 20 | 21 => 21 | 37 => 89 | 46 => 126 | 51 => 151 | 53 => 112 | 80 => 97 | 171 => 140 | 173 => 143 | 212 => 150 | 213 => 152 | 232 => 175 | 233 => 176 | _ => 0, fun i => match i with | 17 => 1 | 18 => 6 | 19 => 7 | _ => 0⟩
set_option maxRecDepth 100000 in
theorem layItoa : Go.Proofs.LaysM.n171 Tryz.prog layItoa_ren where
  mixed := mix
  f129 := Tryz.func131.trans (congrArg some (by kernel_rfl))
  f171 := Tryz.func55.trans (congrArg some (by kernel_rfl))
  f243 := Tryz.func76.trans (congrArg some (by kernel_rfl))
  f246 := Tryz.func95.trans (congrArg some (by kernel_rfl))
  f283 := Tryz.func114.trans (congrArg some (by kernel_rfl))
  f284 := Tryz.func115.trans (congrArg some (by kernel_rfl))
  f285 := Tryz.func116.trans (congrArg some (by kernel_rfl))
  f286 := Tryz.func117.trans (congrArg some (by kernel_rfl))
  f317 := Tryz.func130.trans (congrArg some (by kernel_rfl))
  f318 := Tryz.func132.trans (congrArg some (by kernel_rfl))
  f319 := Tryz.func133.trans (congrArg some (by kernel_rfl))
  f320 := Tryz.func134.trans (congrArg some (by kernel_rfl))
  f337 := Tryz.func144.trans (congrArg some (by kernel_rfl))
  f338 := Tryz.func145.trans (congrArg some (by kernel_rfl))
  t0 := by kernel_rfl
  a0 := by intro w; kernel_rfl
  z0 := by intro w; kernel_rfl
  v0 := by intro w; kernel_rfl
  t2 := by kernel_rfl
  a2 := by intro w; kernel_rfl
  z2 := by intro w; kernel_rfl
  v2 := by intro w; kernel_rfl
  t3 := by kernel_rfl
  a3 := by intro w; kernel_rfl
  z3 := by intro w; kernel_rfl
  v3 := by intro w; kernel_rfl
  t4 := by kernel_rfl
  a4 := by intro w; kernel_rfl
  z4 := by intro w; kernel_rfl
  v4 := by intro w; kernel_rfl
  t5 := by kernel_rfl
  a5 := by intro w; kernel_rfl
  z5 := by intro w; kernel_rfl
  v5 := by intro w; kernel_rfl
  t9 := by kernel_rfl
  a9 := by intro w; kernel_rfl
  z9 := by intro w; kernel_rfl
  v9 := by intro w; kernel_rfl
  t20 := by kernel_rfl
  a20 := by intro w; kernel_rfl
  z20 := by intro w; kernel_rfl
  v20 := by intro w; kernel_rfl
  t37 := by kernel_rfl
  a37 := by intro w; kernel_rfl
  z37 := by intro w; kernel_rfl
  v37 := by intro w; kernel_rfl
  t46 := by kernel_rfl
  a46 := by intro w; kernel_rfl
  z46 := by intro w; kernel_rfl
  v46 := by intro w; kernel_rfl
  t51 := by kernel_rfl
  a51 := by intro w; kernel_rfl
  z51 := by intro w; kernel_rfl
  v51 := by intro w; kernel_rfl
  t53 := by kernel_rfl
  a53 := by intro w; kernel_rfl
  z53 := by intro w; kernel_rfl
  v53 := by intro w; kernel_rfl
  t171 := by kernel_rfl
  a171 := by intro w; kernel_rfl
  z171 := by intro w; kernel_rfl
  v171 := by intro w; kernel_rfl
  t173 := by kernel_rfl
  a173 := by intro w; kernel_rfl
  z173 := by intro w; kernel_rfl
  v173 := by intro w; kernel_rfl
  t212 := by kernel_rfl
  a212 := by intro w; kernel_rfl
  z212 := by intro w; kernel_rfl
  v212 := by intro w; kernel_rfl
  t213 := by kernel_rfl
  a213 := by intro w; kernel_rfl
  z213 := by intro w; kernel_rfl
  t232 := by kernel_rfl
  a232 := by intro w; kernel_rfl
  z232 := by intro w; kernel_rfl
  v232 := by intro w; kernel_rfl
  t233 := by kernel_rfl
  a233 := by intro w; kernel_rfl
  z233 := by intro w; kernel_rfl
  v233 := by intro w; kernel_rfl
  g17 := by kernel_rfl
  g18 := by kernel_rfl
  g19 := by kernel_rfl
  i0 := by kernel_rfl
  i2 := by kernel_rfl
  i3 := by kernel_rfl
  i4 := by kernel_rfl
  i5 := by kernel_rfl
  i9 := by kernel_rfl
  i20 := by kernel_rfl
  i37 := by kernel_rfl
  i46 := by kernel_rfl
  i51 := by kernel_rfl
  i53 := by kernel_rfl
  i171 := by kernel_rfl
  i173 := by kernel_rfl
  i212 := by kernel_rfl
  i232 := by kernel_rfl
  i233 := by kernel_rfl
  m17 := by kernel_rfl
  m18 := by kernel_rfl
  m19 := by kernel_rfl
def laySplit_ren : Go.Shelf.Ren := ⟨fun i => match i with | 138 => 90 | 143 => 91 | 146 => 45 | 195 => 107 | 197 => 108 | 217 => 124 | 218 => 109 | 219 => 110 | 221 => 73 | 224 => 126 | 225 => 125 | 260 => 123 | 266 => 142 | 267 => 127 | 268 => 89 | 314 => 143 | _ => 0, fun i => match i with | 0 => 0 | 2 => 2 | 3 => 3 | 4 => 4 | 5 => 5 | 9 => 9 | 20 => 20 | 21 => 21 | 31 => 46 | 46 => 126 | 51 => 151 | 80 => 97 | 105 => 135 | 119 => 163 | 138 => 165 | 139 => 166 | 146 => 167 | _ => 0, fun i => match i with | 1 => 0 | 3 => 2 | 4 => 3 | _ => 0⟩
set_option maxRecDepth 100000 in
theorem laySplit : Go.Proofs.Lays.n146 Tryz.prog laySplit_ren where
  mixed := mix
  f138 := Tryz.func90.trans (congrArg some (by kernel_rfl))
  f143 := Tryz.func91.trans (congrArg some (by kernel_rfl))
  f146 := Tryz.func45.trans (congrArg some (by kernel_rfl))
  f195 := Tryz.func107.trans (congrArg some (by kernel_rfl))
  f197 := Tryz.func108.trans (congrArg some (by kernel_rfl))
  f217 := Tryz.func124.trans (congrArg some (by kernel_rfl))
  f218 := Tryz.func109.trans (congrArg some (by kernel_rfl))
  f219 := Tryz.func110.trans (congrArg some (by kernel_rfl))
  f221 := Tryz.func73.trans (congrArg some (by kernel_rfl))
  f224 := Tryz.func126.trans (congrArg some (by kernel_rfl))
  f225 := Tryz.func125.trans (congrArg some (by kernel_rfl))
  f260 := Tryz.func123.trans (congrArg some (by kernel_rfl))
  f266 := Tryz.func142.trans (congrArg some (by kernel_rfl))
  f267 := Tryz.func127.trans (congrArg some (by kernel_rfl))
  f268 := Tryz.func89.trans (congrArg some (by kernel_rfl))
  f314 := Tryz.func143.trans (congrArg some (by kernel_rfl))
  t0 := by kernel_rfl
  a0 := by intro w; kernel_rfl
  z0 := by intro w; kernel_rfl
  v0 := by intro w; kernel_rfl
  t3 := by kernel_rfl
  a3 := by intro w; kernel_rfl
  z3 := by intro w; kernel_rfl
  v3 := by intro w; kernel_rfl
  t4 := by kernel_rfl
  a4 := by intro w; kernel_rfl
  z4 := by intro w; kernel_rfl
  v4 := by intro w; kernel_rfl
  t5 := by kernel_rfl
  a5 := by intro w; kernel_rfl
  z5 := by intro w; kernel_rfl
  v5 := by intro w; kernel_rfl
  t9 := by kernel_rfl
  a9 := by intro w; kernel_rfl
  z9 := by intro w; kernel_rfl
  v9 := by intro w; kernel_rfl
  t21 := by kernel_rfl
  a21 := by intro w; kernel_rfl
  z21 := by intro w; kernel_rfl
  v21 := by intro w; kernel_rfl
  t31 := by kernel_rfl
  a31 := by intro w; kernel_rfl
  z31 := by intro w; kernel_rfl
  v31 := by intro w; kernel_rfl
  t46 := by kernel_rfl
  a46 := by intro w; kernel_rfl
  z46 := by intro w; kernel_rfl
  v46 := by intro w; kernel_rfl
  t51 := by kernel_rfl
  a51 := by intro w; kernel_rfl
  z51 := by intro w; kernel_rfl
  v51 := by intro w; kernel_rfl
  t105 := by kernel_rfl
  a105 := by intro w; kernel_rfl
  z105 := by intro w; kernel_rfl
  v105 := by intro w; kernel_rfl
  t119 := by kernel_rfl
  a119 := by intro w; kernel_rfl
  z119 := by intro w; kernel_rfl
  t138 := by kernel_rfl
  a138 := by intro w; kernel_rfl
  z138 := by intro w; kernel_rfl
  v138 := by intro w; kernel_rfl
  t139 := by kernel_rfl
  a139 := by intro w; kernel_rfl
  z139 := by intro w; kernel_rfl
  v139 := by intro w; kernel_rfl
  t146 := by kernel_rfl
  a146 := by intro w; kernel_rfl
  z146 := by intro w; kernel_rfl
  v146 := by intro w; kernel_rfl
  g1 := by kernel_rfl
  g3 := by kernel_rfl
  g4 := by kernel_rfl
theorem max_of {w : World} (h : w.ShapedOpen Tryz.prog) : ∃ m, w.cell? ⟨laySplit_ren.g 1, 0, none⟩ = some (.int .i64 m) :=
  cell_of_shapedOpen_int (g := 0) (t := 3) (zero := #[.int .i64 0]) h (of_decide_eq_true (by kernel_rfl)) (by kernel_rfl) rfl (by kernel_rfl) (by kernel_rfl) Tryz.underlying3
def layJoin_ren : Go.Shelf.Ren := ⟨fun i => match i with | 156 => 27 | 165 => 60 | 166 => 61 | 169 => 62 | 240 => 82 | 241 => 83 | 276 => 98 | 277 => 99 | _ => 0, fun i => match i with | 0 => 0 | 2 => 2 | 3 => 3 | 4 => 4 | 5 => 5 | 9 => 9 | 20 => 20 | 21 => 21 | 31 => 46 | 37 => 89 | 70 => 88 | 72 => 91 | 75 => 94 | 76 => 95 | 80 => 97 | 127 => 115 | 164 => 127 | _ => 0, fun x => x⟩
set_option maxRecDepth 100000 in
theorem layJoin : Go.Proofs.Lays.n156 Tryz.prog layJoin_ren where
  mixed := mix
  f156 := Tryz.func27.trans (congrArg some (by kernel_rfl))
  f165 := Tryz.func60.trans (congrArg some (by kernel_rfl))
  f166 := Tryz.func61.trans (congrArg some (by kernel_rfl))
  f169 := Tryz.func62.trans (congrArg some (by kernel_rfl))
  f240 := Tryz.func82.trans (congrArg some (by kernel_rfl))
  f241 := Tryz.func83.trans (congrArg some (by kernel_rfl))
  f276 := Tryz.func98.trans (congrArg some (by kernel_rfl))
  f277 := Tryz.func99.trans (congrArg some (by kernel_rfl))
  t0 := by kernel_rfl
  a0 := by intro w; kernel_rfl
  z0 := by intro w; kernel_rfl
  v0 := by intro w; kernel_rfl
  t3 := by kernel_rfl
  a3 := by intro w; kernel_rfl
  z3 := by intro w; kernel_rfl
  v3 := by intro w; kernel_rfl
  t4 := by kernel_rfl
  a4 := by intro w; kernel_rfl
  z4 := by intro w; kernel_rfl
  v4 := by intro w; kernel_rfl
  t9 := by kernel_rfl
  a9 := by intro w; kernel_rfl
  z9 := by intro w; kernel_rfl
  v9 := by intro w; kernel_rfl
  t20 := by kernel_rfl
  a20 := by intro w; kernel_rfl
  z20 := by intro w; kernel_rfl
  v20 := by intro w; kernel_rfl
  t31 := by kernel_rfl
  a31 := by intro w; kernel_rfl
  z31 := by intro w; kernel_rfl
  v31 := by intro w; kernel_rfl
  t37 := by kernel_rfl
  a37 := by intro w; kernel_rfl
  z37 := by intro w; kernel_rfl
  v37 := by intro w; kernel_rfl
  t70 := by kernel_rfl
  a70 := by intro w; kernel_rfl
  z70 := by intro w; kernel_rfl
  v70 := by intro w; kernel_rfl
  t72 := by kernel_rfl
  a72 := by intro w; kernel_rfl
  z72 := by intro w; kernel_rfl
  v72 := by intro w; kernel_rfl
  t75 := by kernel_rfl
  a75 := by intro w; kernel_rfl
  z75 := by intro w; kernel_rfl
  v75 := by intro w; kernel_rfl
  t76 := by kernel_rfl
  a76 := by intro w; kernel_rfl
  z76 := by intro w; kernel_rfl
  v76 := by intro w; kernel_rfl
  t127 := by kernel_rfl
  a127 := by intro w; kernel_rfl
  z127 := by intro w; kernel_rfl
  v127 := by intro w; kernel_rfl
  t164 := by kernel_rfl
  a164 := by intro w; kernel_rfl
  z164 := by intro w; kernel_rfl
  v164 := by intro w; kernel_rfl
theorem joinExtra : Builder.Extra Tryz.prog layJoin_ren where
  sizeBuilder := by kernel_rfl
  liesBuilder := by kernel_rfl
  t5 := by kernel_rfl
  a5 := by intro w; kernel_rfl
  z5 := by intro w; kernel_rfl
  v5 := by intro w; kernel_rfl
  infoByte := by kernel_rfl
  cellsByte := by kernel_rfl
  sizeByte := by kernel_rfl
  neB5 := by decide
theorem handed_shaped {H : Type} {enc : TypeId × Value → H} {a : Assume} {C : Checked} {os : Os} {f : FuncId} {fn : Func} {s : ChangeSpec} {conds : List PathCond} {apart fresh handsOn again : Bool} {X : World → Array Value → Prop}
    (hX : ∀ (w w' : World) (args : Array Value), w.heap = w'.heap → X w args → X w' args)
    (own : ownKnob C.prog.godebug = none) (started : os.Started) (noInit : C.prog.inits.idxOf? f = none) (hfn : C.prog.funcs[f]? = some fn)
    (witness : ∃ (w : World) (tape : Tape) (i : Input), w.os = os ∧ (w.forCall tape i).Shaped C.prog ∧ i.vars = [] ∧ Input.okWide C.prog (w.forCall tape i) .any w.heap.size f i ∧
      ((s.pre enc C.prog fn conds apart (w.forCall tape i).memory i.args ∧ X (w.forCall tape i).memory i.args) ∧ sizedMet enc C.prog fn (OpenSpec.ofChange s) apart (w.forCall tape i).memory i.args) ∧ a.holds C.prog (lone (Frame.enter C.prog f i.args .normal) [] (w.forCall tape i)))
    (contract : ∀ (W : World) (base : Nat) (args : Array Value) (ds gs : List (DataW H)) (before : List MemPlace),
      (∀ (j : Nat) t v, fn.params[j]? = some t → args[j]? = some v → Value.okWide C.prog W .any base t v) →
      DataW.Whole enc C.prog fn.params.toList s.vars apart W args.toList ds gs before →
      conds.all (PathCond.test C.prog ⟨fn.params.toList, ds, s.plain.varTypes C.prog, gs⟩) = true →
      (DataW.weightsEach C.prog (fn.params.toList ++ s.plain.varTypes C.prog) (ds ++ gs)).all (· ≤ reachBytes) = true → X W args ∧ W.ShapedOpen C.prog →
      a.holds C.prog (lone (Frame.enter C.prog f args .normal) [] W) →
      Calls C.prog f args W fun e W' => ∃ v, e = .returned v ∧ s.post enc C.prog fn apart fresh handsOn again W args v W') :
    ReturnsInHanded a C os f .any (fun w args => (s.pre enc C.prog fn conds apart w args ∧ X w args) ∧ sizedMet enc C.prog fn (OpenSpec.ofChange s) apart w args) (s.post enc C.prog fn apart fresh handsOn again) := by
  refine returnsInHanded_of_calls own started noInit witness ?_
  intro w tape i _ hsh _ hok hpre hholds
  obtain ⟨_, _, _, fn', hfn', _, _, _, _, hval⟩ := hok
  have e : fn' = fn := Option.some.inj (hfn'.symm.trans hfn)
  subst e
  obtain ⟨⟨⟨ds, gs, before, hw, hc⟩, hx⟩, hz⟩ := hpre
  have hw' := DataW.Whole.of_heap (w' := w.forCall tape i) (by rfl) hw
  refine (contract (w.forCall tape i) w.heap.size i.args ds gs before hval hw' hc (hz.weights hw) ⟨hX _ _ _ (by rfl) hx, hsh⟩ hholds).mono fun e W' ⟨v, he, hp⟩ => ?_
  subst he
  exact ChangeSpec.post_blind hp
theorem extok (htab : Lib.TabIs Tryz.prog W₀ "internal/strconv.uint64pow10" .u64 Lib.pow10Tab) {t1 t2 : TypeId} {p1 p2 : Value} (hsyn : W₀.var? Tryz.prog "strconv.ErrSyntax" = some #[.iface t1 p1]) (hran : W₀.var? Tryz.prog "strconv.ErrRange" = some #[.iface t2 p2]) {mx : Int} (hmax : W₀.cell? ⟨laySplit_ren.g 1, 0, none⟩ = some (.int .i64 mx)) : ExtOk W₀ Tryz.prog sg := .of (show extAll W₀ Tryz.prog sgT from
  ⟨.nothing rfl rfl,
  ⟨.nothing rfl rfl,
  ⟨.nothing rfl rfl,
  ⟨.nothing rfl rfl,
  ⟨.nothing rfl rfl,
  ⟨.nothing rfl rfl,
  ⟨.nothing rfl rfl,
  ⟨.nothing rfl rfl,
  ⟨.nothing rfl rfl,
  ⟨.nothing rfl rfl,
  ⟨.nothing rfl rfl,
  ⟨.nothing rfl rfl,
  ⟨.nothing rfl rfl,
  ⟨.nothing rfl rfl,
  ⟨.nothing rfl rfl,
  ⟨.nothing rfl rfl,
  ⟨.nothing rfl rfl,
  ⟨.nothing rfl rfl,
  ⟨.nothing rfl rfl,
  ⟨.nothing rfl rfl,
  ⟨.nothing rfl rfl,
  ⟨.nothing rfl rfl,
  ⟨.nothing rfl rfl,
  ⟨.nothing rfl rfl,
  ⟨(join_ext layJoin joinExtra rfl),
  ⟨.nothing rfl rfl,
  ⟨.nothing rfl rfl,
  ⟨.nothing rfl rfl,
  ⟨.nothing rfl rfl,
  ⟨.nothing rfl rfl,
  ⟨.nothing rfl rfl,
  ⟨.nothing rfl rfl,
  ⟨.nothing rfl rfl,
  ⟨.nothing rfl rfl,
  ⟨.nothing rfl rfl,
  ⟨.nothing rfl rfl,
  ⟨.nothing rfl rfl,
  ⟨.nothing rfl rfl,
  ⟨.nothing rfl rfl,
  ⟨.nothing rfl rfl,
  ⟨.nothing rfl rfl,
  ⟨.nothing rfl rfl,
  ⟨(split_ext laySplit rfl (by kernel_rfl) hmax),
  ⟨.nothing rfl rfl,
  ⟨.nothing rfl rfl,
  ⟨.nothing rfl rfl,
  ⟨.nothing rfl rfl,
  ⟨.nothing rfl rfl,
  ⟨.nothing rfl rfl,
  ⟨.nothing rfl rfl,
  ⟨.nothing rfl rfl,
  ⟨.nothing rfl rfl,
  ⟨(itoa_ext layItoa rfl htab),
  ⟨.nothing rfl rfl,
  ⟨.nothing rfl rfl,
  ⟨.nothing rfl rfl,
  ⟨.nothing rfl rfl,
  ⟨.nothing rfl rfl,
  ⟨.nothing rfl rfl,
  ⟨.nothing rfl rfl,
  ⟨.nothing rfl rfl,
  ⟨.nothing rfl rfl,
  ⟨.nothing rfl rfl,
  ⟨.nothing rfl rfl,
  ⟨.nothing rfl rfl,
  ⟨.nothing rfl rfl,
  ⟨.nothing rfl rfl,
  ⟨.nothing rfl rfl,
  ⟨.nothing rfl rfl,
  ⟨.nothing rfl rfl,
  ⟨.nothing rfl rfl,
  ⟨.nothing rfl rfl,
  ⟨.nothing rfl rfl,
  ⟨.nothing rfl rfl,
  ⟨.nothing rfl rfl,
  ⟨.nothing rfl rfl,
  ⟨.nothing rfl rfl,
  ⟨.nothing rfl rfl,
  ⟨(ins_ext ins88),
  ⟨.nothing rfl rfl,
  ⟨.nothing rfl rfl,
  ⟨.nothing rfl rfl,
  ⟨(cont_ext layCont rfl (enters_of Tryz.func97 (by kernel_rfl) rfl) pred97),
  ⟨(atoi_ext layAtoi rfl hsyn hran),
  ⟨.nothing rfl rfl,
  ⟨.nothing rfl rfl,
  ⟨.nothing rfl rfl,
  ⟨.nothing rfl rfl,
  ⟨.nothing rfl rfl,
  ⟨.nothing rfl rfl,
  ⟨.nothing rfl rfl,
  ⟨.nothing rfl rfl,
  ⟨.nothing rfl rfl,
  ⟨.nothing rfl rfl,
  trivial⟩⟩⟩⟩⟩⟩⟩⟩⟩⟩⟩⟩⟩⟩⟩⟩⟩⟩⟩⟩⟩⟩⟩⟩⟩⟩⟩⟩⟩⟩⟩⟩⟩⟩⟩⟩⟩⟩⟩⟩⟩⟩⟩⟩⟩⟩⟩⟩⟩⟩⟩⟩⟩⟩⟩⟩⟩⟩⟩⟩⟩⟩⟩⟩⟩⟩⟩⟩⟩⟩⟩⟩⟩⟩⟩⟩⟩⟩⟩⟩⟩⟩⟩⟩⟩⟩⟩⟩⟩⟩⟩⟩⟩⟩)
end Go.Proofs.YthbaafcoidjflaaGreatDoor.AE
end
section
namespace Go.Proofs.YthbaafcoidjflaaGreatDoor.AE.lineParses
open Go Go.ChangeShapes Go.WideShapes Go.ChangeAt Go.RowKit
open Go.ChangeMaps (open_string shut_string)
set_option linter.unusedVariables false
def Pure : Prop := ∀ (x0 : den .str), Gd .str x0 → ∃ K, F.pleachlaw43_LineParses K x0 = some true
theorem door_met (os : Os) (args : Array Value) : laidMetH Tryz.prog Rows.lineParsesRow.laid ((World.laidAll Tryz.prog os Rows.lineParsesRow.laid).forCall (fun _ _ => 0) ⟨#[], args, []⟩).memory := by
  rw [MakeChecks.laidMetH_plain _ _ _ (by kernel_rfl)]
  exact laidMet_laidAll _ (by kernel_rfl) (by kernel_rfl)
theorem tab_is : (Rows.laid_internal_strconv_uint64pow10 : DataW Unit) = Lib.tabData .u64 Lib.pow10Tab := by kernel_rfl
theorem tab_of {W : World} (h : laidMetH Tryz.prog Rows.lineParsesRow.laid W) : Lib.TabIs Tryz.prog W "internal/strconv.uint64pow10" .u64 Lib.pow10Tab := by
  rw [MakeChecks.laidMetH_plain _ _ _ (by kernel_rfl)] at h
  obtain ⟨ps, ⟨_, _, _, _, _, _, _, _, _, _, ⟨_, _, _, _, _, _, _, _, _, _, ⟨g, t, cs, f, p, q, hg, ht, hv, hd, _, _⟩, _⟩, _⟩, _, _⟩ := h
  obtain rfl := Option.some.inj ((show Tryz.prog.globalNamed "internal/strconv.uint64pow10" = some 1 by kernel_rfl).symm.trans hg)
  obtain rfl := Option.some.inj ((show (Tryz.prog.globals[1]?).map (·.type) = some 150 by kernel_rfl).symm.trans ht)
  rw [tab_is] at hd
  unfold Lib.TabIs
  rw [hv, ← Lib.cells_of_tab Tryz.underlying150 Tryz.underlying112 (by kernel_rfl) (by kernel_rfl) hd]
theorem syn_of {W : World} (h : laidMetH Tryz.prog Rows.lineParsesRow.laid W) : ∃ t p, W.var? Tryz.prog "strconv.ErrSyntax" = some #[.iface t p] := by
  rw [MakeChecks.laidMetH_plain _ _ _ (by kernel_rfl)] at h
  obtain ⟨a1, s1, hv1, _⟩ := laid_sentinel (show laidMet Tryz.prog (_ :: _) W from h.tail.tail.tail.tail.tail) (show Tryz.prog.globalNamed "strconv.ErrSyntax" = some 4 by kernel_rfl) (show (Tryz.prog.globals[4]?).map (·.type) = some 94 by kernel_rfl) Tryz.underlying94 rowErr Tryz.underlying177 Tryz.underlying179 rfl rfl Tryz.underlying9 (by kernel_rfl) (by kernel_rfl)
  exact ⟨_, _, hv1⟩
theorem ran_of {W : World} (h : laidMetH Tryz.prog Rows.lineParsesRow.laid W) : ∃ t p, W.var? Tryz.prog "strconv.ErrRange" = some #[.iface t p] := by
  rw [MakeChecks.laidMetH_plain _ _ _ (by kernel_rfl)] at h
  obtain ⟨a1, s1, hv1, _⟩ := laid_sentinel (show laidMet Tryz.prog (_ :: _) W from h.tail.tail.tail.tail) (show Tryz.prog.globalNamed "strconv.ErrRange" = some 5 by kernel_rfl) (show (Tryz.prog.globals[5]?).map (·.type) = some 94 by kernel_rfl) Tryz.underlying94 rowErr Tryz.underlying177 Tryz.underlying179 rfl rfl Tryz.underlying9 (by kernel_rfl) (by kernel_rfl)
  exact ⟨_, _, hv1⟩
set_option maxRecDepth 100000 in
theorem lifted (pure : Pure) (os : Os) (started : os.Started) (H : Type) (enc : TypeId × Value → H) :
    ReturnsInHanded {} Tryz.checked os 4 .any (fun w args => (Rows.lineParsesSpec.pre enc Tryz.prog Tryz.f4 Rows.lineParsesRow.domain false w args ∧ laidMetH Tryz.prog Rows.lineParsesRow.laid w) ∧ sizedMet enc Tryz.prog Tryz.f4 (OpenSpec.ofChange Rows.lineParsesSpec) false w args) (Rows.lineParsesSpec.post enc Tryz.prog Tryz.f4 false true false false) := by
  refine handed_shaped (C := Tryz.checked) (X := (fun w _ => laidMetH Tryz.prog Rows.lineParsesRow.laid w)) (fun _ _ _ hh h => h.of_heap hh) own started (by kernel_rfl) Tryz.func4
    (ChangeSpec.witness_shaped (enc := enc) (C := Tryz.checked) (os := os) (X := (fun w _ => laidMetH Tryz.prog Rows.lineParsesRow.laid w)) false (World.laidAll Tryz.prog os Rows.lineParsesRow.laid) #[.string ByteArray.empty] 8 (World.laidAll_os _ _ _) (World.shaped_of_ZipB (by kernel_rfl) (by kernel_rfl)) (by kernel_rfl) (by kernel_rfl) (by kernel_rfl) (door_met os _)) ?_
  intro W base args ds gs before hval0 hW hcnd hsz0 ⟨hL, hSh⟩ _
  have hsz : (DataW.weightsEach Tryz.prog (Tryz.f4.params.toList ++ Rows.lineParsesSpec.plain.varTypes Tryz.prog) (ds ++ gs)).all (· ≤ reachBytes) = true := hsz0
  have hval : ∀ (j : Nat) t v, Tryz.f4.params[j]? = some t → args[j]? = some v → Value.okWide Tryz.prog W .any base t v := hval0
  have hW' := hW
  obtain ⟨p, q, hA0, hV, rfl, hfz, hnd⟩ := hW
  have hA : DataW.TrodAll enc Tryz.prog W 0 (fun _ => true) true Tryz.f4.params.toList args.toList ds p := hA0
  rw [Tryz.params4] at hA hval hsz
  obtain ⟨v0, vs0, d0, ds0, p0, q0, hargs, rfl, rfl, h0, r0⟩ := trodAll_cons hA
  obtain ⟨rfl, rfl, rfl⟩ := trodAll_nil r0
  obtain rfl : args = #[v0] := by cases args; simp_all
  obtain ⟨rfl, rfl⟩ := trodVars_none hV
  obtain ⟨x0, rfl, rfl, rfl, y0⟩ := open_string Tryz.underlying9 (hval 0 9 v0 rfl rfl) h0
  have G0 : Gd .str x0 := by
    have z := sized_string hsz (j := 0) (t := 9) rfl rfl
    rw [Array.length_toList] at z
    exact z
  obtain ⟨K, hk⟩ := pure x0 G0
  have ha : AV1sR (OX (NoX (W₀ := W)) [] []) W [] [.sc (.val (.string x0))] (#[.string x0] : Array Value).toList := .cons (.sc (.val _)) ⟨rfl, by simp⟩
  refine (law_calls (good Tryz.prog sg (extok (htab := tab_of hL) (hsyn := (syn_of hL).choose_spec.choose_spec) (hran := (ran_of hL).choose_spec.choose_spec) (hmax := (max_of hSh).choose_spec)) mix num K) (f := 4) (t := (true : Bool)) (b := true) hk rfl (fun O w ρ vals σ v h hv => bool_of h hv) ha).mono fun e W' ⟨he, hd⟩ => ?_
  have bel : Below W.heap.size W W' := hd
  subst he
  exact ⟨_, rfl, _, _, _, [], _, [], hW', trodAll_mk1 (shut_bool Tryz.underlying4 _), (trodAll_cons_mk (shut_string Tryz.underlying9 y0) trodAll_mk0), rfl, bel.frame _, fun h => by cases h⟩
theorem over (pure : Pure) : Rows.lineParsesRow.holds Tryz.pinned (OpenSpec.ofChange Rows.lineParsesSpec) :=
  OpenClaim.holds_of_wide 4 Tryz.f4 rfl rfl rfl rfl rfl rfl rfl ⟨rfl, rfl, rfl, rfl, rfl⟩ rfl rfl rfl rfl rfl (by kernel_rfl) Tryz.func4 (by kernel_rfl)
    (of_decide_eq_true (by kernel_rfl)) (by unfold Func.isWrapper; first | (rw [if_pos (by decide +kernel)]; kernel_rfl) | (rw [if_neg (by decide +kernel)]; exact ⟨rfl, rfl⟩))
    (fun os started H enc _ => lifted pure os started H enc)
theorem proved (pure : Pure) : Rows.LineParsesSaid := over pure
theorem card (pure : Pure) : Rows.LineParsesCardSaid :=
  Claim7.holds_tied_plain_at .later [] [.data, .data, .data, .data, .sentinel, .sentinel, .pinned] true (true, "37c322a846269f2a6058176da1fdc10782fe381962436e72b44f1cc4d0f1b0e7") true
    (proved pure) (fun _ h => by cases h) (by kernel_rfl) (fun _ h => by cases h) lineParses_row_tie rfl ⟨rfl, rfl⟩ (by kernel_rfl) rfl
    (fun f fn hf hfn => by
      obtain rfl : f = 4 := Option.some.inj ((show Tryz.prog.funcNamed "pleach/pleachlaw43.LineParses" = some 4 by kernel_rfl).symm.trans hf) |>.symm
      obtain rfl : fn = Tryz.f4 := (Option.some.inj (Tryz.func4.symm.trans hfn)).symm
      refine ⟨by kernel_rfl, fun j t ht => ?_⟩
      rw [Tryz.params4] at ht
      have hm : t ∈ [9] := by
        have := Array.mem_of_getElem? ht
        simpa using this
      simp only [List.mem_cons, List.mem_nil_iff, or_false] at hm
      obtain rfl := hm
      · exact (show Tryz.prog.wantsStandIn 9 = false by kernel_rfl))
    (by kernel_rfl)
end Go.Proofs.YthbaafcoidjflaaGreatDoor.AE.lineParses
end
