/- The evaluator of the program's form, its soundness, the functions of the given program as it evaluates them, and laws on these. Conditions: as each theorem says. -/
import Derived.Test.YthbaafcoidjflaaGreatDoorCLineShowsN4
import Derived.Test.YthbaafcoidjflaaGreatDoorRows
import Derived.Test.YthbaafcoidjflaaGreatDoorCLineShowsN2
import Derived.WalkKit
import Derived.ProofKit
import Derived.OpenShut
import Derived.ShutString
import Derived.ChangeOld
import Derived.Below
import Derived.SizedLaws
import Derived.LaidMore
import Derived.Stop.Joined
import Derived.Stop.LaidErr
import Derived.Shelf.Vars
import Derived.Lay
import Derived.Test.YthbaafcoidjflaaGreatDoorTie
import Derived.Test.YthbaafcoidjflaaGreatDoorCards
import Derived.SevenTiedAt
section
set_option linter.unusedVariables false
set_option linter.unusedSimpArgs false
set_option maxRecDepth 20000
namespace Go.Proofs.YthbaafcoidjflaaGreatDoor.AE
open Go

/-! ### Words without blanks and semicolons -/
def Cl (s : ByteArray) : Prop := 32 ∉ s.data.toList ∧ 59 ∉ s.data.toList
theorem cl_app {a b : ByteArray} (h : Cl a) (g : Cl b) : Cl (a ++ b) := by
  unfold Cl at *
  simp only [ByteArray.data_append, Array.toList_append, List.mem_append]
  exact ⟨fun e => e.elim h.1 g.1, fun e => e.elim h.2 g.2⟩
theorem cl_of {s : ByteArray} (h : ∀ i, i < s.size → byteAt s (i : Int) ≠ 32 ∧ byteAt s (i : Int) ≠ 59) : Cl s := by
  constructor
  · intro hm
    obtain ⟨i, hi, he⟩ := List.mem_iff_getElem.1 hm
    have hi' : i < s.size := by rw [data_len] at hi; exact hi
    have := bt_data s i hi'
    rw [he] at this
    exact (h i hi').1 this
  · intro hm
    obtain ⟨i, hi, he⟩ := List.mem_iff_getElem.1 hm
    have hi' : i < s.size := by rw [data_len] at hi; exact hi
    have := bt_data s i hi'
    rw [he] at this
    exact (h i hi').2 this
theorem okFrom_at (s : ByteArray) : ∀ (d i j : Nat), okFrom s d i = true → i ≤ j → j < i + d → okc (byteAt s (j : Int)) = true
  | 0, i, j, _, h1, h2 => by omega
  | d + 1, i, j, h, h1, h2 => by
    simp only [okFrom, Bool.and_eq_true] at h
    by_cases e : i = j
    · subst e; exact h.1
    · exact okFrom_at s d (i + 1) j h.2 (by omega) (by omega)
theorem cl_name {s : ByteArray} (h : nameB s = true) : Cl s := cl_of fun i hi => by
  unfold nameB at h
  simp only [Bool.and_eq_true] at h
  have := okFrom_at s _ 0 i h.2 (by omega) (by omega)
  generalize byteAt s (i : Int) = c at this
  simp [okc] at this
  omega
theorem cl_dB (n : Nat) : Cl (dB n) := cl_of fun i hi => by have := dB_digit hi; omega
theorem cl_itoa (n : Int) : Cl (itoaS n) := by
  by_cases h : n < 0
  · rw [itoaS_neg h]; exact cl_app (by unfold Cl; decide) (cl_dB _)
  · obtain ⟨m, rfl⟩ := Int.eq_ofNat_of_zero_le (show 0 ≤ n by omega)
    rw [itoaS_pos]; exact cl_dB m
theorem com_name {s : ByteArray} (h : comB s = true) : ∃ n, in64 n ∧ nameC n = s := by
  unfold comB at h
  cases g : progN s with
  | none => rw [g] at h; cases h
  | some n => exact ⟨n, (progN_iff s n).1 g⟩
theorem cl_com {s : ByteArray} (h : comB s = true) : Cl s := by
  obtain ⟨n, _, rfl⟩ := com_name h
  exact cl_app (by unfold Cl; decide) (cl_itoa n)
theorem com_short {s : ByteArray} (h : comB s = true) : s.size ≤ 22 := by
  obtain ⟨n, hn, rfl⟩ := com_name h
  have := itoaS_size hn.1 hn.2
  unfold nameC; rw [one_app]; omega
theorem okF_at (s : ByteArray) : ∀ (d i j : Nat), okF s d i = true → i ≤ j → j < i + d → badI (byteAt s (j : Int)) = false
  | 0, i, j, _, h1, h2 => by omega
  | d + 1, i, j, h, h1, h2 => by
    simp only [okF] at h
    cases hb : badI (byteAt s (i : Int)) with
    | true => rw [hb] at h; cases h
    | false =>
      rw [hb] at h
      by_cases e : i = j
      · subst e; exact hb
      · exact okF_at s d (i + 1) j h (by omega) (by omega)
theorem cl_plain {s : ByteArray} (h : plainB s = true) : Cl s := cl_of fun i hi => by
  have := okF_at s _ 0 i h (by omega) (by omega)
  generalize byteAt s (i : Int) = c at this
  simp [badI] at this
  omega
theorem cl_hex (t : ByteArray) : Cl (hexB t) := cl_of fun j hj => by
  rw [hexB_size] at hj
  have hl : (hexL t t.size 0).length = 2 * t.size := hexL_len t _ _
  have e : byteAt (hexB t) (j : Int) = (hexL t t.size 0).getD j 0 := bt_bytesOf (hexL_bytes t _ _) (by omega)
  have d : ∀ k : Fin 16, byteAt hexD (k : Nat) ≠ 32 ∧ byteAt hexD (k : Nat) ≠ 59 := by decide
  have h := hexL_at t t.size 0 (j / 2) (by omega)
  have hb := bt_range t ((0 + j / 2 : Nat) : Int)
  generalize byteAt t ((0 + j / 2 : Nat) : Int) = b at h hb
  rw [e]
  rcases Nat.mod_two_eq_zero_or_one j with hm | hm
  · have hj2 : j = 2 * (j / 2) := by omega
    rw [hj2, h.1]
    have := d ⟨(b / 16).toNat, by omega⟩
    rwa [show (((b / 16).toNat : Nat) : Int) = b / 16 by omega] at this
  · have hj2 : j = 2 * (j / 2) + 1 := by omega
    rw [hj2, h.2]
    have := d ⟨(b % 16).toNat, by omega⟩
    rwa [show (((b % 16).toNat : Nat) : Int) = b % 16 by omega] at this
theorem cl_show {v : TValue} (h : valueB v = true) : Cl (showB v) := by
  unfold showB
  rw [if_pos h]
  split
  · split <;> (unfold Cl; decide)
  · split
    · exact cl_itoa _
    · split
      · rename_i hp; exact cl_app (by unfold Cl; decide) (cl_plain hp)
      · exact cl_app (by unfold Cl; decide) (cl_hex _)
theorem cl_eS : Cl eS := by unfold Cl; decide
theorem cl_no : Cl noS := by unfold Cl; decide
theorem word_cl (k : Int) : Cl (wordV k) ∧ (wordV k).size ≤ 10 := by
  unfold wordV; split
  · rename_i h
    have : ∀ n : Fin 20, (32 ∉ (rd .str wordsT (n : Nat)).data.toList ∧ 59 ∉ (rd .str wordsT (n : Nat)).data.toList) ∧ (rd .str wordsT (n : Nat)).size ≤ 10 := by decide
    exact this ⟨k.toNat, by omega⟩
  · exact ⟨cl_eS, by decide⟩
theorem sign_cl (k : Int) : Cl (signV k) ∧ (signV k).size ≤ 10 := by
  unfold signV; split
  · rename_i h
    have : ∀ n : Fin 13, (32 ∉ (rd .str signsT (n : Nat)).data.toList ∧ 59 ∉ (rd .str signsT (n : Nat)).data.toList) ∧ (rd .str signsT (n : Nat)).size ≤ 10 := by decide
    exact this ⟨k.toNat, by omega⟩
  · exact ⟨cl_eS, by decide⟩

/-! ### Fields of a call that has a line -/
theorem optV_id {s : ByteArray} (h : s ≠ eS) : optV s = s := if_neg h
theorem name_ne {s : ByteArray} (h : nameB s = true) : s ≠ eS := by rintro rfl; revert h; decide
theorem com_ne {s : ByteArray} (h : comB s = true) : s ≠ eS := by rintro rfl; cases h
def formW (c : TCall) (f : ByteArray) : Nat → Nat → List ByteArray
  | 0, _ => []
  | d + 1, i => optV (fieldL c (byteAt f (i : Int))) :: formW c f d (i + 1)
theorem kind_in {c : TCall} (h : isV c = true) : 1 ≤ c.1 ∧ c.1 ≤ 19 := by
  unfold isV at h
  by_cases g : 1 ≤ c.1 ∧ c.1 ≤ 19
  · exact g
  · rw [show formV c.1 = qS from if_neg g] at h
    simp at h
/-- What holds of names, of commits' names and of the sign for none, holds of all fields. -/
theorem fields_P (c : TCall) (h : isV c = true) (P : ByteArray → Prop) (hn : ∀ s, nameB s = true → P s) (hc : ∀ s, comB s = true → P s) (h0 : P noS) : ∀ w ∈ fieldsV c, P w := by
  have hk := kind_in h
  obtain ⟨k, a, o, x, y, l, t, i⟩ := c
  have hO : ∀ o, (comB o = true ∨ o = eS) → P (optV o) := fun o h => by
    rcases h with h | rfl
    · rw [optV_id (com_ne h)]; exact hc _ h
    · exact h0
  have hT : ∀ t, (t = eS ∨ (nameB t = true ∧ t ≠ noS)) → P (optV t) := fun t h => by
    rcases h with rfl | h
    · exact h0
    · rw [optV_id (name_ne h.1)]; exact hn _ h.1
  have : k = 1 ∨ k = 2 ∨ k = 3 ∨ k = 4 ∨ k = 5 ∨ k = 6 ∨ k = 7 ∨ k = 8 ∨ k = 9 ∨ k = 10 ∨ k = 11 ∨ k = 12 ∨ k = 13 ∨ k = 14 ∨ k = 15 ∨ k = 16 ∨ k = 17 ∨ k = 18 ∨ k = 19 := by simp only at hk; omega
  rcases this with rfl | rfl | rfl | rfl | rfl | rfl | rfl | rfl | rfl | rfl | rfl | rfl | rfl | rfl | rfl | rfl | rfl | rfl | rfl
  · show ∀ w ∈ ([a, optV o, optV t] : List ByteArray), P w
    simp only [List.forall_mem_cons]
    exact ⟨hn _ (ik_1 h).1, hO _ (ik_1 h).2.1, hT _ (ik_1 h).2.2.1, fun _ h => absurd h List.not_mem_nil⟩
  · show ∀ w ∈ ([a, x] : List ByteArray), P w
    simp only [List.forall_mem_cons]
    exact ⟨hn _ (ik_2 h).1, hc _ (ik_2 h).2.1, fun _ h => absurd h List.not_mem_nil⟩
  · show ∀ w ∈ ([a, x] : List ByteArray), P w
    simp only [List.forall_mem_cons]
    exact ⟨hn _ (ik_3 h).1, hc _ (ik_3 h).2.1, fun _ h => absurd h List.not_mem_nil⟩
  · show ∀ w ∈ ([a, o, x] : List ByteArray), P w
    simp only [List.forall_mem_cons]
    exact ⟨hn _ (ik_4 h).1, hc _ (ik_4 h).2.1, hc _ (ik_4 h).2.2.1, fun _ h => absurd h List.not_mem_nil⟩
  · show ∀ w ∈ ([a, o] : List ByteArray), P w
    simp only [List.forall_mem_cons]
    exact ⟨hn _ (ik_5 h).1, hc _ (ik_5 h).2.1, fun _ h => absurd h List.not_mem_nil⟩
  · show ∀ w ∈ ([a, o] : List ByteArray), P w
    simp only [List.forall_mem_cons]
    exact ⟨hn _ (ik_6 h).1, hc _ (ik_6 h).2.1, fun _ h => absurd h List.not_mem_nil⟩
  · show ∀ w ∈ ([x] : List ByteArray), P w
    simp only [List.forall_mem_cons]
    exact ⟨hc _ (ik_7 h).1, fun _ h => absurd h List.not_mem_nil⟩
  · show ∀ w ∈ ([x, i] : List ByteArray), P w
    simp only [List.forall_mem_cons]
    exact ⟨hc _ (ik_8 h).1, hn _ (ik_8 h).2.1, fun _ h => absurd h List.not_mem_nil⟩
  · show ∀ w ∈ ([x, i] : List ByteArray), P w
    simp only [List.forall_mem_cons]
    exact ⟨hc _ (ik_9 h).1, hn _ (ik_9 h).2.1, fun _ h => absurd h List.not_mem_nil⟩
  · show ∀ w ∈ ([x, i] : List ByteArray), P w
    simp only [List.forall_mem_cons]
    exact ⟨hc _ (ik_10 h).1, hn _ (ik_10 h).2.1, fun _ h => absurd h List.not_mem_nil⟩
  · show ∀ w ∈ ([x, i] : List ByteArray), P w
    simp only [List.forall_mem_cons]
    exact ⟨hc _ (ik_11 h).1, hn _ (ik_11 h).2.1, fun _ h => absurd h List.not_mem_nil⟩
  · show ∀ w ∈ ([x, y] : List ByteArray), P w
    simp only [List.forall_mem_cons]
    exact ⟨hc _ (ik_12 h).1, hc _ (ik_12 h).2.1, fun _ h => absurd h List.not_mem_nil⟩
  · show ∀ w ∈ ([a, o, x, optV t] : List ByteArray), P w
    simp only [List.forall_mem_cons]
    exact ⟨hn _ (ik_13 h).1, hc _ (ik_13 h).2.1, hc _ (ik_13 h).2.2.1, hT _ (ik_13 h).2.2.2.1, fun _ h => absurd h List.not_mem_nil⟩
  · show ∀ w ∈ ([x, y] : List ByteArray), P w
    simp only [List.forall_mem_cons]
    exact ⟨hc _ (ik_14 h).1, hc _ (ik_14 h).2.1, fun _ h => absurd h List.not_mem_nil⟩
  · show ∀ w ∈ ([x] : List ByteArray), P w
    simp only [List.forall_mem_cons]
    exact ⟨hc _ (ik_15 h).1, fun _ h => absurd h List.not_mem_nil⟩
  · exact fun _ h => absurd h List.not_mem_nil
  · exact fun _ h => absurd h List.not_mem_nil
  · exact fun _ h => absurd h List.not_mem_nil
  · exact fun _ h => absurd h List.not_mem_nil
theorem form_fields (c : TCall) (h : isV c = true) : formW c (formV c.1) (formV c.1).size 0 = fieldsV c := by
  have hk := kind_in h
  obtain ⟨k, a, o, x, y, l, t, i⟩ := c
  have : k = 1 ∨ k = 2 ∨ k = 3 ∨ k = 4 ∨ k = 5 ∨ k = 6 ∨ k = 7 ∨ k = 8 ∨ k = 9 ∨ k = 10 ∨ k = 11 ∨ k = 12 ∨ k = 13 ∨ k = 14 ∨ k = 15 ∨ k = 16 ∨ k = 17 ∨ k = 18 ∨ k = 19 := by simp only at hk; omega
  rcases this with rfl | rfl | rfl | rfl | rfl | rfl | rfl | rfl | rfl | rfl | rfl | rfl | rfl | rfl | rfl | rfl | rfl | rfl | rfl
  · show ([optV a, optV o, optV t] : List ByteArray) = [a, optV o, optV t]
    rw [optV_id (name_ne (ik_1 h).1)]
  · show ([optV a, optV x] : List ByteArray) = [a, x]
    rw [optV_id (name_ne (ik_2 h).1), optV_id (com_ne (ik_2 h).2.1)]
  · show ([optV a, optV x] : List ByteArray) = [a, x]
    rw [optV_id (name_ne (ik_3 h).1), optV_id (com_ne (ik_3 h).2.1)]
  · show ([optV a, optV o, optV x] : List ByteArray) = [a, o, x]
    rw [optV_id (name_ne (ik_4 h).1), optV_id (com_ne (ik_4 h).2.1), optV_id (com_ne (ik_4 h).2.2.1)]
  · show ([optV a, optV o] : List ByteArray) = [a, o]
    rw [optV_id (name_ne (ik_5 h).1), optV_id (com_ne (ik_5 h).2.1)]
  · show ([optV a, optV o] : List ByteArray) = [a, o]
    rw [optV_id (name_ne (ik_6 h).1), optV_id (com_ne (ik_6 h).2.1)]
  · show ([optV x] : List ByteArray) = [x]
    rw [optV_id (com_ne (ik_7 h).1)]
  · show ([optV x, optV i] : List ByteArray) = [x, i]
    rw [optV_id (com_ne (ik_8 h).1), optV_id (name_ne (ik_8 h).2.1)]
  · show ([optV x, optV i] : List ByteArray) = [x, i]
    rw [optV_id (com_ne (ik_9 h).1), optV_id (name_ne (ik_9 h).2.1)]
  · show ([optV x, optV i] : List ByteArray) = [x, i]
    rw [optV_id (com_ne (ik_10 h).1), optV_id (name_ne (ik_10 h).2.1)]
  · show ([optV x, optV i] : List ByteArray) = [x, i]
    rw [optV_id (com_ne (ik_11 h).1), optV_id (name_ne (ik_11 h).2.1)]
  · show ([optV x, optV y] : List ByteArray) = [x, y]
    rw [optV_id (com_ne (ik_12 h).1), optV_id (com_ne (ik_12 h).2.1)]
  · show ([optV a, optV o, optV x, optV t] : List ByteArray) = [a, o, x, optV t]
    rw [optV_id (name_ne (ik_13 h).1), optV_id (com_ne (ik_13 h).2.1), optV_id (com_ne (ik_13 h).2.2.1)]
  · show ([optV x, optV y] : List ByteArray) = [x, y]
    rw [optV_id (com_ne (ik_14 h).1), optV_id (com_ne (ik_14 h).2.1)]
  · show ([optV x] : List ByteArray) = [x]
    rw [optV_id (com_ne (ik_15 h).1)]
  · rfl
  · rfl
  · rfl
  · rfl
theorem is_ops {c : TCall} (h : isV c = true) : (cOps c).length ≤ 64 ∧ (cOps c).all opOK = true ∧ (c.1 ≠ 1 → cOps c = []) := by
  unfold isV bareB at h
  simp only [Bool.and_eq_true, Bool.or_eq_true, decide_eq_true_eq, Bool.not_eq_true', decide_eq_false_iff_not, beq_iff_eq, ops_dec] at h
  exact ⟨h.2.2.1, h.2.2.2.2, fun g => h.2.1.2.2.2.2.2.2.resolve_right g⟩

/-! ### The line -/
def opW (o : TOp) : List ByteArray := semi :: signV o.1 :: opFieldsV o
def wordsV (c : TCall) : List ByteArray := fieldsV c ++ (cOps c).flatMap opW
def showV (c : TCall) : ByteArray := wordV c.1 ++ tailB sp (wordsV c)
theorem opW_P (o : TOp) (hb : in64 (oVal o).2.1) (h : opOK o = true) : ∀ w ∈ opW o, w.size ≤ 1000 := by
  unfold opOK at h
  simp only [Bool.and_eq_true] at h
  have h1 := right_short o hb h.1 (fun s => s.size ≤ 1000) (fun s h => by have := name_short h; omega) (fun _ => showB_le _ hb)
  have h2 := (sign_cl o.1).2
  intro w hw
  rcases List.mem_cons.1 hw with rfl | hw
  · decide
  · rcases List.mem_cons.1 hw with rfl | hw
    · omega
    · exact h1 w hw
theorem opFields_len (o : TOp) : (opFieldsV o).length ≤ 3 := opFieldsV_len o
theorem opW_len (o : TOp) : (opW o).length ≤ 5 := by have := opFieldsV_len o; simp [opW]; omega
theorem flat_len (l : List TOp) : (l.flatMap opW).length ≤ 5 * l.length := by
  induction l with
  | nil => simp
  | cons o r ih => have := opW_len o; simp only [List.flatMap_cons, List.length_append, List.length_cons]; omega
theorem fields_len (c : TCall) : (fieldsV c).length ≤ 4 := by
  unfold fieldsV fields1 fields2 fields3 fields4 fields5
  (repeat' split) <;> simp
theorem words_P (c : TCall) (hc : okC c) (h : isV c = true) : (wordsV c).length ≤ 324 ∧ ∀ w ∈ wordsV c, w.size ≤ 1000 := by
  obtain ⟨h1, h2, _⟩ := is_ops h
  constructor
  · have := fields_len c
    have := flat_len (cOps c)
    unfold wordsV; rw [List.length_append]; omega
  · intro w hw
    rcases List.mem_append.1 hw with g | g
    · exact fields_P c h (fun s => s.size ≤ 1000) (fun s h => by have := name_short h; omega) (fun s h => by have := com_short h; omega) (by decide) w g
    · obtain ⟨o, ho, g⟩ := List.mem_flatMap.1 g
      exact opW_P o (hc.ops o ho).vn (List.all_eq_true.1 h2 o ho) w g
theorem show_size (c : TCall) (hc : okC c) (h : isV c = true) : (showV c).size ≤ 400000 := by
  obtain ⟨h1, h2⟩ := words_P c hc h
  have := tailB_size sp 1000 _ h2
  have h3 := (word_cl c.1).2
  have hs : sp.size = 1 := rfl
  have : (wordsV c).length * (sp.size + 1000) ≤ 324 * 1001 := by rw [hs]; exact Nat.mul_le_mul_right _ h1
  unfold showV; rw [ByteArray.size_append]; omega
theorem lShow_l (c : TCall) (hc : okC c) (h : isV c = true) : ∀ (d i : Nat) (x : List ByteArray), i + d = (cOps c).length → x.length ≤ 5 + 5 * i → x ++ ((cOps c).drop i).flatMap opW = wordV c.1 :: wordsV c → V.line_Show.l111010 c (i : Int) x = some (showV c, 0)
  | 0, i, x, hd, hx, he => by
    apply V.line_Show.l111010.of; unfold F.line_Show.l111010.B
    rw [List.drop_eq_nil_of_le (by omega), List.flatMap_nil, List.append_nil] at he
    subst he
    have e : joinB (wordV c.1 :: wordsV c) sp = showV c := joinB_cons _ _ _
    have := words_P c hc h
    have := show_size c hc h
    rw [if_out (show (cOps c).length ≤ i by omega), show (⟨#[32]⟩ : ByteArray) = sp from rfl, Join_ok _ _ (by rw [List.length_cons]; omega) (by rw [e]; omega), e]; rfl
  | d + 1, i, x, hd, hx, he => by
    have hi : i < (cOps c).length := by omega
    have hl := (is_ops h).1
    apply V.line_Show.l111010.of; unfold F.line_Show.l111010.B
    have ho : okOp (rd sOp (cOps c) i) := hc.ops _ (rd_mem (e := sOp) hi)
    rw [drop_rd (e := sOp) hi, List.flatMap_cons] at he
    rw [if_in hi, guard_in hi, nat_cast, w64_up hi hc.l]
    generalize rd sOp (cOps c) i = o at ho he ⊢
    have e1 : V.line_opFields (o.1, o.2.1, o.2.2.1, o.2.2.2.1, o.2.2.2.2.1, o.2.2.2.2.2.1, o.2.2.2.2.2.2.1, o.2.2.2.2.2.2.2) = some (opFieldsV o) := opFields_ok o ho.vn
    have hol := opFieldsV_len o
    rw [signs_ok, Option.bind_some, guard_dec (by simp only [List.length_cons, List.length_nil]; unfold nmax; omega), e1, Option.bind_some, guard_dec (by simp only [List.length_append, List.length_cons, List.length_nil]; unfold nmax; omega)]
    refine lShow_l c hc h d (i + 1) _ (by omega) (by simp only [List.length_append, List.length_cons, List.length_nil]; omega) ?_
    rw [← he]
    simp [opW]
theorem lShow_ok (c : TCall) (hc : okC c) : V.line_Show c = some (if isV c then (showV c, 0) else (eS, 2)) := by
  apply V.line_Show.of; unfold F.line_Show.B
  have e1 : V.line_Check (c.1, c.2.1, c.2.2.1, c.2.2.2.1, c.2.2.2.2.1, c.2.2.2.2.2.1, c.2.2.2.2.2.2.1, c.2.2.2.2.2.2.2) = some (if isV c then 0 else 2) := lCheck_ok c hc
  have e2 : V.line_fields (c.1, c.2.1, c.2.2.1, c.2.2.2.1, c.2.2.2.2.1, c.2.2.2.2.2.1, c.2.2.2.2.2.2.1, c.2.2.2.2.2.2.2) = some (fieldsV c) := fields_ok c
  rw [e1, Option.bind_some]
  cases h : isV c with
  | false => rfl
  | true =>
    have hl := fields_len c
    show ((V.line_words c.1).bind _) = _
    rw [words_ok, Option.bind_some, e2]
    simp only [Option.bind_some, meet_self]
    rw [guard_dec (by simp only [List.length_cons, List.length_nil]; unfold nmax; omega)]
    exact lShow_l c hc h (cOps c).length 0 _ (by omega) (by simp; omega) (by simp [wordsV])

/-! ### The document's line -/
theorem rWords_ok : V.pleachref43_words = some (wordsT.drop 1) := V.pleachref43_words.of rfl
theorem rSigns_ok : V.pleachref43_signs = some (signsT.drop 1) := V.pleachref43_signs.of rfl
theorem word_at {k : Int} (h0 : 1 ≤ k) (h1 : k ≤ 19) : rd .str (wordsT.drop 1) (k.toNat - 1) = wordV k := by
  have : ∀ n : Fin 19, rd .str (wordsT.drop 1) (n : Nat) = rd .str wordsT ((n : Nat) + 1) := by decide
  unfold wordV; rw [if_pos ⟨h0, h1⟩, this ⟨k.toNat - 1, by omega⟩]
  show rd .str wordsT (k.toNat - 1 + 1) = _
  rw [show k.toNat - 1 + 1 = k.toNat by omega]
theorem sign_at {k : Int} (h0 : 1 ≤ k) (h1 : k ≤ 12) : rd .str (signsT.drop 1) (k.toNat - 1) = signV k := by
  have : ∀ n : Fin 12, rd .str (signsT.drop 1) (n : Nat) = rd .str signsT ((n : Nat) + 1) := by decide
  unfold signV; rw [if_pos ⟨h0, h1⟩, this ⟨k.toNat - 1, by omega⟩]
  show rd .str signsT (k.toNat - 1 + 1) = _
  rw [show k.toNat - 1 + 1 = k.toNat by omega]
theorem op_has {k : Int} (h0 : 1 ≤ k) (h1 : k ≤ 12) : hasB (opFormV k) 107 = (six k || k == 9 || k == 11) ∧ hasB (opFormV k) 118 = (k == 9 || k == 11) := by
  have e : ∀ n : Fin 12, hasB (opFormV ((n : Nat) + 1 : Nat)) 107 = (six (((n : Nat) + 1 : Nat) : Int) || (((n : Nat) + 1 : Nat) : Int) == 9 || (((n : Nat) + 1 : Nat) : Int) == 11) ∧ hasB (opFormV (((n : Nat) + 1 : Nat) : Int)) 118 = ((((n : Nat) + 1 : Nat) : Int) == 9 || (((n : Nat) + 1 : Nat) : Int) == 11) := by decide
  obtain ⟨e1, e2⟩ := e ⟨k.toNat - 1, by omega⟩
  have he : (((k.toNat - 1 + 1 : Nat)) : Int) = k := by omega
  simp only [he] at e1 e2
  exact ⟨e1, e2⟩
theorem lit3 : (⟨#[32, 59, 32]⟩ : ByteArray) = sp ++ (semi ++ sp) := by decide
end Go.Proofs.YthbaafcoidjflaaGreatDoor.AE
end
section
set_option linter.unusedVariables false
set_option linter.unusedSimpArgs false
set_option maxRecDepth 20000
namespace Go.Proofs.YthbaafcoidjflaaGreatDoor.AE
open Go

theorem small_guard {a b : Nat} (h : a + b ≤ 1000000000) : decide (a + b ≤ i64max) = true := decide_eq_true (by unfold i64max; omega)
theorem opWords_small (o : TOp) (ho : okOp o) (h : opOK o = true) : (tailB sp (opW o)).size ≤ 5005 ∧ ∀ w ∈ opW o, w.size ≤ 1000 := by
  have h1 := opW_P o ho.vn h
  have h2 := tailB_size sp 1000 _ h1
  have h3 := opW_len o
  have hs : sp.size = 1 := rfl
  have : (opW o).length * (sp.size + 1000) ≤ 5 * 1001 := by rw [hs]; exact Nat.mul_le_mul_right _ h3
  exact ⟨by omega, h1⟩
/-- What is shown behind an op's Id. -/
def tail3 (o : TOp) : ByteArray := if o.1 == 3 then sp ++ (o.2.2.1 ++ (sp ++ o.2.2.2.1)) else eS
def tailK (o : TOp) : ByteArray := if (six o.1 || o.1 == 9 || o.1 == 11) then sp ++ oKey o else eS
def tailV (o : TOp) : ByteArray := if (o.1 == 9 || o.1 == 11) then sp ++ showB (oVal o) else eS
theorem op_text (o : TOp) (h : 1 ≤ o.1) (h' : o.1 ≤ 12) : tailB sp (opW o) = ((((⟨#[32, 59, 32]⟩ : ByteArray) ++ (signV o.1 ++ (sp ++ o.2.1))) ++ tail3 o) ++ tailK o) ++ tailV o := by
  obtain ⟨k, i, f, t, y, v⟩ := o
  have hk : k = 1 ∨ k = 2 ∨ k = 3 ∨ k = 4 ∨ k = 5 ∨ k = 6 ∨ k = 7 ∨ k = 8 ∨ k = 9 ∨ k = 10 ∨ k = 11 ∨ k = 12 := by simp only at h h'; omega
  rw [lit3]
  rcases hk with rfl | rfl | rfl | rfl | rfl | rfl | rfl | rfl | rfl | rfl | rfl | rfl <;>
    simp [opW, opFieldsV, tailB, tail3, tailK, tailV, six, ByteArray.append_assoc, app_eS, eS_app]
theorem rShow_v (c : TCall) (o : TOp) (ho : okOp o) (h : 1 ≤ o.1) (h' : o.1 ≤ 12) (x : ByteArray) (i : Int) (l : List ByteArray) (hx : x.size ≤ 900000000) (hv : (showB (oVal o)).size ≤ 1000) : ∀ {r : ByteArray}, V.pleachref43_Show.j11111110100111 c (x ++ tailV o) i l = some r → V.pleachref43_Show.j1111111010011001111 c x i l o.1 o.2.1 o.2.2.1 o.2.2.2.1 (oKey o) (oVal o).1 (oVal o).2.1 (oVal o).2.2 = some r := fun {r} hr => by
  apply V.pleachref43_Show.j1111111010011001111.of; unfold F.pleachref43_Show.j1111111010011001111.B
  have hf : (opFormV o.1).size ≤ 1000 := by have := opFormV_size o.1; omega
  have hs : (⟨#[32]⟩ : ByteArray).size = 1 := rfl
  rw [opForm_ok, Option.bind_some, rhas_ok _ _ hf, Option.bind_some, (op_has h h').2]
  unfold tailV at hr
  cases g : (o.1 == 9 || o.1 == 11) with
  | false =>
    rw [g, if_neg (by decide), app_eS] at hr
    exact hr
  | true =>
    rw [g, if_pos rfl, ← ByteArray.append_assoc] at hr
    rw [cond_true, small_guard (by omega), guard_tt, show V.pleachref06_Show ((oVal o).1, (oVal o).2.1, (oVal o).2.2) = some (showB (oVal o)) from refShow_ok (oVal o) ho.vn, Option.bind_some, small_guard (by rw [ByteArray.size_append]; omega), guard_tt]
    exact hr
theorem rShow_k (c : TCall) (o : TOp) (ho : okOp o) (h : 1 ≤ o.1) (h' : o.1 ≤ 12) (x : ByteArray) (i : Int) (l : List ByteArray) (hx : x.size ≤ 800000000) (hk : (oKey o).size ≤ 1000 ∨ (six o.1 || o.1 == 9 || o.1 == 11) = false) (hv : (showB (oVal o)).size ≤ 1000) : ∀ {r : ByteArray}, V.pleachref43_Show.j11111110100111 c ((x ++ tailK o) ++ tailV o) i l = some r → V.pleachref43_Show.j111111101001100111 c x i l o.1 o.2.1 o.2.2.1 o.2.2.2.1 (oKey o) (oVal o).1 (oVal o).2.1 (oVal o).2.2 = some r := fun {r} hr => by
  apply V.pleachref43_Show.j111111101001100111.of; unfold F.pleachref43_Show.j111111101001100111.B
  have hf : (opFormV o.1).size ≤ 1000 := by have := opFormV_size o.1; omega
  have hs : (⟨#[32]⟩ : ByteArray).size = 1 := rfl
  rw [opForm_ok, Option.bind_some, rhas_ok _ _ hf, Option.bind_some, (op_has h h').1]
  unfold tailK at hr
  cases g : (six o.1 || o.1 == 9 || o.1 == 11) with
  | false =>
    rw [g, if_neg (by decide), app_eS] at hr
    exact rShow_v c o ho h h' x i l (by omega) hv hr
  | true =>
    rw [g, if_pos rfl, ← ByteArray.append_assoc] at hr
    have hk := hk.resolve_right (by rw [g]; decide)
    rw [cond_true, small_guard (by omega), guard_tt, small_guard (by rw [ByteArray.size_append]; omega), guard_tt]
    exact rShow_v c o ho h h' _ i l (by rw [ByteArray.size_append, ByteArray.size_append]; omega) hv hr
theorem rShow_l1 (c : TCall) (hc : okC c) (h : isV c = true) : ∀ (d i : Nat) (x : ByteArray), i + d = (cOps c).length → x.size ≤ 10000 + 5005 * i → V.pleachref43_Show.l1111111010 c x (i : Int) (signsT.drop 1) = some (x ++ tailB sp (((cOps c).drop i).flatMap opW))
  | 0, i, x, hd, hx => by
    apply V.pleachref43_Show.l1111111010.of; unfold F.pleachref43_Show.l1111111010.B
    rw [if_out (show (cOps c).length ≤ i by omega), List.drop_eq_nil_of_le (by omega)]
    exact congrArg some (app_eS x).symm
  | d + 1, i, x, hd, hx => by
    have hi : i < (cOps c).length := by omega
    obtain ⟨hl, hop, _⟩ := is_ops h
    apply V.pleachref43_Show.l1111111010.of; unfold F.pleachref43_Show.l1111111010.B
    have ho : okOp (rd sOp (cOps c) i) := hc.ops _ (rd_mem (e := sOp) hi)
    have hk : opOK (rd sOp (cOps c) i) = true := List.all_eq_true.1 hop _ (rd_mem (e := sOp) hi)
    rw [drop_rd (e := sOp) hi, List.flatMap_cons, tailB_app]
    rw [if_in hi, guard_in hi, nat_cast]
    generalize rd sOp (cOps c) i = o at ho hk ⊢
    have next : V.pleachref43_Show.j11111110100111 c (x ++ tailB sp (opW o)) (i : Int) (signsT.drop 1) = some (x ++ (tailB sp (opW o) ++ tailB sp (((cOps c).drop (i + 1)).flatMap opW))) := by
      apply V.pleachref43_Show.j11111110100111.of; unfold F.pleachref43_Show.j11111110100111.B
      have hs := (opWords_small o ho hk).1
      rw [w64_up hi hc.l, rShow_l1 c hc h d (i + 1) _ (by omega) (by rw [ByteArray.size_append]; omega), ByteArray.append_assoc]
    have hr : rightB o = true := by unfold opOK at hk; simp only [Bool.and_eq_true] at hk; exact hk.1
    obtain ⟨k0, k1, kn⟩ := right_kind hr
    have hw := (opWords_small o ho hk).2
    have hf := right_short o ho.vn hr (fun s => s.size ≤ 1000) (fun s h => by have := name_short h; omega) (fun _ => showB_le _ ho.vn)
    have hid := name_short kn
    have hsg := (sign_cl o.1).2
    have hv := showB_le (oVal o) ho.vn
    have s3 : (⟨#[32, 59, 32]⟩ : ByteArray).size = 3 := rfl
    have s1 : (⟨#[32]⟩ : ByteArray).size = 1 := rfl
    rw [op_text o k0 k1] at next
    have hkey : (oKey o).size ≤ 1000 ∨ (six o.1 || o.1 == 9 || o.1 == 11) = false := by
      cases g : (six o.1 || o.1 == 9 || o.1 == 11) with
      | false => exact .inr rfl
      | true =>
        left
        apply hf
        unfold opFieldsV
        by_cases h3 : (o.1 == 3) = true
        · have : o.1 = 3 := by simpa using h3
          rw [this] at g; exact absurd g (by decide)
        · rw [if_neg h3]
          by_cases h6 : six o.1 = true
          · rw [if_pos h6]; simp
          · rw [if_neg h6]
            have : (o.1 == 9 || o.1 == 11) = true := by
              revert g h6
              cases six o.1 <;> simp
            rw [if_pos this]; simp
    rw [small_guard (by omega), guard_tt, dn_nat k0 (by omega), nat_cast, guard_in (show o.1.toNat - 1 < (signsT.drop 1).length by show _ < 12; omega), sign_at k0 k1]
    rw [small_guard (by rw [ByteArray.size_append]; omega), guard_tt, small_guard (by simp only [ByteArray.size_append]; omega), guard_tt, small_guard (by simp only [ByteArray.size_append]; omega), guard_tt]
    have e : ((((x ++ (⟨#[32, 59, 32]⟩ : ByteArray)) ++ signV o.1) ++ (⟨#[32]⟩ : ByteArray)) ++ o.2.1) = x ++ ((⟨#[32, 59, 32]⟩ : ByteArray) ++ (signV o.1 ++ (sp ++ o.2.1))) := by simp only [ByteArray.append_assoc]
    have hsz : (x ++ ((⟨#[32, 59, 32]⟩ : ByteArray) ++ (signV o.1 ++ (sp ++ o.2.1)))).size ≤ 500000000 := by
      have : sp.size = 1 := rfl
      simp only [ByteArray.size_append]; omega
    cases g : (o.1 == 3) with
    | false =>
      rw [cond_false]
      refine rShow_k c o ho k0 k1 _ _ _ (by rw [e]; omega) hkey hv ?_
      rw [e, op_text o k0 k1, ← next]
      unfold tail3
      rw [g, if_neg (by decide), app_eS]
      simp only [ByteArray.append_assoc]
    | true =>
      have ef : opFieldsV o = [o.2.1, o.2.2.1, o.2.2.2.1] := by unfold opFieldsV; rw [if_pos g]
      have h2 := hf o.2.2.1 (by rw [ef]; simp)
      have h3 := hf o.2.2.2.1 (by rw [ef]; simp)
      rw [cond_true, e]
      rw [small_guard (by omega), guard_tt, small_guard (by rw [ByteArray.size_append]; omega), guard_tt, small_guard (by simp only [ByteArray.size_append] at hsz ⊢; omega), guard_tt, small_guard (by simp only [ByteArray.size_append] at hsz ⊢; omega), guard_tt]
      refine rShow_k c o ho k0 k1 _ _ _ (by simp only [ByteArray.size_append] at hsz ⊢; omega) hkey hv ?_
      rw [op_text o k0 k1, ← next]
      unfold tail3
      rw [g, if_pos rfl]
      simp only [ByteArray.append_assoc]
theorem formW_cons (c : TCall) (f : ByteArray) (d i : Nat) : formW c f (d + 1) i = optV (fieldL c (byteAt f (i : Int))) :: formW c f d (i + 1) := rfl
theorem rShow_l0 (c : TCall) (hc : okC c) (h : isV c = true) (f : ByteArray) (hf : f.size ≤ 4) : ∀ (d i : Nat) (x : ByteArray), i + d = f.size → x.size ≤ 100 + 1001 * i → (∀ w ∈ formW c f d i, w.size ≤ 1000) → V.pleachref43_Show.l11111010 c x f (i : Int) = some (x ++ tailB sp (formW c f d i ++ (cOps c).flatMap opW))
  | 0, i, x, hd, hx, hw => by
    apply V.pleachref43_Show.l11111010.of; unfold F.pleachref43_Show.l11111010.B
    rw [if_out (by omega), rSigns_ok, Option.bind_some]
    exact rShow_l1 c hc h (cOps c).length 0 x (by omega) (by omega)
  | d + 1, i, x, hd, hx, hw => by
    have hi : i < f.size := by omega
    have s1 : (⟨#[32]⟩ : ByteArray).size = 1 := rfl
    apply V.pleachref43_Show.l11111010.of; unfold F.pleachref43_Show.l11111010.B
    rw [if_in hi, guard_in hi]
    rw [show V.pleachref43_field (c.1, c.2.1, c.2.2.1, c.2.2.2.1, c.2.2.2.2.1, c.2.2.2.2.2.1, c.2.2.2.2.2.2.1, c.2.2.2.2.2.2.2) (byteAt f (i : Int)) = some (fieldL c (byteAt f (i : Int))) from field_ok c _, Option.bind_some, strEq_dec]
    rw [formW_cons] at hw ⊢
    have h1 := hw _ List.mem_cons_self
    have ih := fun x hx => rShow_l0 c hc h f hf d (i + 1) x (by omega) hx (fun w hw' => hw w (List.mem_cons_of_mem _ hw'))
    have key : ∀ w, w.size ≤ 1000 → V.pleachref43_Show.j11111010010011 c x f (i : Int) w = some (x ++ tailB sp ((w :: formW c f d (i + 1)) ++ (cOps c).flatMap opW)) := fun w hw => by
      apply V.pleachref43_Show.j11111010010011.of; unfold F.pleachref43_Show.j11111010010011.B
      rw [small_guard (by omega), guard_tt, small_guard (by rw [ByteArray.size_append]; omega), guard_tt]
      apply V.pleachref43_Show.j11111010011.of; unfold F.pleachref43_Show.j11111010011.B
      rw [w64_up hi (by omega), ih _ (by simp only [ByteArray.size_append]; omega)]
      show some _ = some (x ++ (sp ++ (w ++ tailB sp _)))
      simp only [ByteArray.append_assoc]
      rfl
    unfold optV at h1 ⊢
    by_cases he : fieldL c (byteAt f (i : Int)) = eS
    · rw [if_pos he] at h1 ⊢
      rw [if_yes he]
      exact key _ h1
    · rw [if_neg he] at h1 ⊢
      rw [if_no he]
      exact key _ h1
theorem lrShow_ok (c : TCall) (hc : okC c) : V.pleachref43_Show c = some (if isV c then showV c else eS) := by
  apply V.pleachref43_Show.of; unfold F.pleachref43_Show.B
  have e1 : V.pleachref43_Is (c.1, c.2.1, c.2.2.1, c.2.2.2.1, c.2.2.2.2.1, c.2.2.2.2.2.1, c.2.2.2.2.2.2.1, c.2.2.2.2.2.2.2) = some (isV c) := rIs_ok c hc
  rw [e1, Option.bind_some]
  cases h : isV c with
  | false => rfl
  | true =>
    obtain ⟨k0, k1⟩ := kind_in h
    have hf := form_fields c h
    have hw := (word_cl c.1).2
    rw [Bool.not_true, cond_false, rWords_ok, Option.bind_some, dn_nat k0 (by omega), nat_cast, guard_in (show c.1.toNat - 1 < (wordsT.drop 1).length by show _ < 19; omega), form_ok, Option.bind_some, word_at k0 k1]
    have := rShow_l0 c hc h (formV c.1) (formV_size c.1) (formV c.1).size 0 (wordV c.1) (by omega) (by omega) (by rw [hf]; exact fun w hw => (words_P c hc h).2 w (List.mem_append_left _ hw))
    rw [hf] at this
    exact this
end Go.Proofs.YthbaafcoidjflaaGreatDoor.AE
end
section
set_option linter.unusedVariables false
set_option linter.unusedSimpArgs false
namespace Go.Proofs.YthbaafcoidjflaaGreatDoor.AE
open Go
theorem okC_gd {c : TCall} (h : Gd sCall c) : okC c where
  n := h.2.1
  o := h.2.2.1
  h := h.2.2.2.1
  x := h.2.2.2.2.1
  t := h.2.2.2.2.2.2.1
  i := h.2.2.2.2.2.2.2
  l := by have := gd_len h.2.2.2.2.2.1 (by decide); show List.length c.2.2.2.2.2.1 ≤ _; omega
  ops := fun o ho => gd_op (h.2.2.2.2.2.1.2 o ho)
theorem few43 (c : TCall) (hc : okC c) : ∃ b, V.pleachlaw43_few c = some b := by
  obtain ⟨b, hb⟩ := Few_one c hc.l
  refine ⟨b, V.pleachlaw43_few.of c ?_⟩
  unfold F.pleachlaw43_few.B
  rw [show V.pleachref40_Few [(c.1, c.2.1, c.2.2.1, c.2.2.2.1, c.2.2.2.2.1, c.2.2.2.2.2.1, c.2.2.2.2.2.2.1, c.2.2.2.2.2.2.2)] 1 = some b from hb]; rfl
theorem LineShows_pure (c : TCall) (hg : Gd sCall c) : V.pleachlaw43_LineShows c = some true := by
  have hc := okC_gd hg
  apply V.pleachlaw43_LineShows.of; unfold F.pleachlaw43_LineShows.B
  obtain ⟨b, hb⟩ := few43 c hc
  rw [show V.pleachlaw43_few (c.1, c.2.1, c.2.2.1, c.2.2.2.1, c.2.2.2.2.1, c.2.2.2.2.2.1, c.2.2.2.2.2.2.1, c.2.2.2.2.2.2.2) = some b from hb, awake43,
    show V.line_Show (c.1, c.2.1, c.2.2.1, c.2.2.2.1, c.2.2.2.2.1, c.2.2.2.2.2.1, c.2.2.2.2.2.2.1, c.2.2.2.2.2.2.2) = _ from lShow_ok c hc,
    show V.pleachref43_Is (c.1, c.2.1, c.2.2.1, c.2.2.2.1, c.2.2.2.2.1, c.2.2.2.2.2.1, c.2.2.2.2.2.2.1, c.2.2.2.2.2.2.2) = _ from rIs_ok c hc,
    show V.pleachref43_Show (c.1, c.2.1, c.2.2.1, c.2.2.2.1, c.2.2.2.2.1, c.2.2.2.2.2.1, c.2.2.2.2.2.2.1, c.2.2.2.2.2.2.2) = _ from lrShow_ok c hc,
    show V.line_Check (c.1, c.2.1, c.2.2.1, c.2.2.2.1, c.2.2.2.2.1, c.2.2.2.2.2.1, c.2.2.2.2.2.2.1, c.2.2.2.2.2.2.2) = _ from lCheck_ok c hc]
  simp only [Option.bind_some]
  cases b with
  | false => rfl
  | true =>
    cases isV c <;> simp [strEq_self]
end Go.Proofs.YthbaafcoidjflaaGreatDoor.AE
end
section
namespace Go.Proofs.YthbaafcoidjflaaGreatDoor.AE
open Go Go.ChangeShapes Go.WideShapes Go.ChangeAt Go.RowKit Go.Lib Go.Sort
variable {W₀ : World}
theorem weights_each {H : Type} {P : Program} {p : Nat → Bool} {ts : List TypeId} {ds : List (DataW H)} (h : (DataW.weightsEach P ts ds).all p = true) {j : Nat} {t : TypeId} {d : DataW H} (ht : ts[j]? = some t) (hd : ds[j]? = some d) : ∀ n ∈ d.weights P t, p n = true :=
  fun n hn => List.all_eq_true.1 h _ (DataW.weights_mem_each ht hd n hn)
theorem own : ownKnob Tryz.prog.godebug = none := by kernel_rfl
theorem laidOut : laidOutB Tryz.prog = true := by kernel_rfl
theorem mix : Tryz.prog.follows .mixedOrders = true := by kernel_rfl
theorem numGoB : (Tryz.prog.funcs.all fun fn => !(fn.name == "runtime.NumGoroutine")) = true := by kernel_rfl
theorem num (f : FuncId) (fn : Func) (h : Tryz.prog.funcs[f]? = some fn) : (fn.name == "runtime.NumGoroutine") = false := by
  have := Array.all_eq_true_iff_forall_mem.1 numGoB fn (Array.mem_of_getElem? h)
  simpa using this
def layAtoi_ren : Go.Shelf.Ren := ⟨fun i => match i with | 129 => 131 | 171 => 55 | 172 => 100 | 205 => 148 | 243 => 76 | 244 => 119 | 245 => 120 | 246 => 95 | 247 => 136 | 279 => 137 | 280 => 138 | 281 => 139 | 282 => 140 | 283 => 114 | 284 => 115 | 285 => 116 | 286 => 117 | 287 => 146 | 316 => 147 | 317 => 130 | 318 => 132 | 319 => 133 | 320 => 134 | 321 => 149 | 322 => 150 | 337 => 144 | 338 => 145 | _ => 0, fun i => match i with | 0 => 0 | 2 => 2 | 3 => 3 | 4 => 4 | 5 => 5 | 9 => 9 | 20 => 20 | 21 => 21 | 37 => 89 | 46 => 126 | 51 => 151 | 53 => 112 | 75 => 94 | 76 => 95 | 80 => 97 | 85 => 157 | 127 => 115 | 143 => 177 | 145 => 179 | 167 => 156 | 168 => 159 | 171 => 140 | 173 => 143 | 175 => 170 | 210 => 173 | 212 => 150 | 213 => 152 | 232 => 175 | 233 => 176 | _ => 0, fun i => match i with | 15 => 4 | 16 => 5 | 17 => 1 | 18 => 6 | 19 => 7 | _ => 0⟩
set_option maxRecDepth 100000 in
theorem layAtoi : Go.Proofs.LaysC.n172 Tryz.prog layAtoi_ren where
  mixed := mix
  f129 := Tryz.func131.trans (congrArg some (by kernel_rfl))
  f171 := Tryz.func55.trans (congrArg some (by kernel_rfl))
  f172 := Tryz.func100.trans (congrArg some (by kernel_rfl))
  f205 := Tryz.func148.trans (congrArg some (by kernel_rfl))
  f243 := Tryz.func76.trans (congrArg some (by kernel_rfl))
  f244 := Tryz.func119.trans (congrArg some (by kernel_rfl))
  f245 := Tryz.func120.trans (congrArg some (by kernel_rfl))
  f246 := Tryz.func95.trans (congrArg some (by kernel_rfl))
  f247 := Tryz.func136.trans (congrArg some (by kernel_rfl))
  f279 := Tryz.func137.trans (congrArg some (by kernel_rfl))
  f280 := Tryz.func138.trans (congrArg some (by kernel_rfl))
  f281 := Tryz.func139.trans (congrArg some (by kernel_rfl))
  f282 := Tryz.func140.trans (congrArg some (by kernel_rfl))
  f283 := Tryz.func114.trans (congrArg some (by kernel_rfl))
  f284 := Tryz.func115.trans (congrArg some (by kernel_rfl))
  f285 := Tryz.func116.trans (congrArg some (by kernel_rfl))
  f286 := Tryz.func117.trans (congrArg some (by kernel_rfl))
  f287 := Tryz.func146.trans (congrArg some (by kernel_rfl))
  f316 := Tryz.func147.trans (congrArg some (by kernel_rfl))
  f317 := Tryz.func130.trans (congrArg some (by kernel_rfl))
  f318 := Tryz.func132.trans (congrArg some (by kernel_rfl))
  f319 := Tryz.func133.trans (congrArg some (by kernel_rfl))
  f320 := Tryz.func134.trans (congrArg some (by kernel_rfl))
  f321 := Tryz.func149.trans (congrArg some (by kernel_rfl))
  f322 := Tryz.func150.trans (congrArg some (by kernel_rfl))
  f337 := Tryz.func144.trans (congrArg some (by kernel_rfl))
  f338 := Tryz.func145.trans (congrArg some (by kernel_rfl))
  t0 := by kernel_rfl
  a0 := by intro w; kernel_rfl
  z0 := by intro w; kernel_rfl
  v0 := by intro w; kernel_rfl
  t2 := by kernel_rfl
  a2 := by intro w; kernel_rfl
  z2 := by intro w; kernel_rfl
  v2 := by intro w; kernel_rfl
  t3 := by kernel_rfl
  a3 := by intro w; kernel_rfl
  z3 := by intro w; kernel_rfl
  v3 := by intro w; kernel_rfl
  t4 := by kernel_rfl
  a4 := by intro w; kernel_rfl
  z4 := by intro w; kernel_rfl
  v4 := by intro w; kernel_rfl
  t5 := by kernel_rfl
  a5 := by intro w; kernel_rfl
  z5 := by intro w; kernel_rfl
  v5 := by intro w; kernel_rfl
  t9 := by kernel_rfl
  a9 := by intro w; kernel_rfl
  z9 := by intro w; kernel_rfl
  v9 := by intro w; kernel_rfl
  t20 := by kernel_rfl
  a20 := by intro w; kernel_rfl
  z20 := by intro w; kernel_rfl
  v20 := by intro w; kernel_rfl
  t21 := by kernel_rfl
  a21 := by intro w; kernel_rfl
  z21 := by intro w; kernel_rfl
  v21 := by intro w; kernel_rfl
  t37 := by kernel_rfl
  a37 := by intro w; kernel_rfl
  z37 := by intro w; kernel_rfl
  v37 := by intro w; kernel_rfl
  t46 := by kernel_rfl
  a46 := by intro w; kernel_rfl
  z46 := by intro w; kernel_rfl
  v46 := by intro w; kernel_rfl
  t51 := by kernel_rfl
  a51 := by intro w; kernel_rfl
  z51 := by intro w; kernel_rfl
  v51 := by intro w; kernel_rfl
  t53 := by kernel_rfl
  a53 := by intro w; kernel_rfl
  z53 := by intro w; kernel_rfl
  v53 := by intro w; kernel_rfl
  t75 := by kernel_rfl
  a75 := by intro w; kernel_rfl
  z75 := by intro w; kernel_rfl
  v75 := by intro w; kernel_rfl
  t76 := by kernel_rfl
  a76 := by intro w; kernel_rfl
  z76 := by intro w; kernel_rfl
  v76 := by intro w; kernel_rfl
  t85 := by kernel_rfl
  a85 := by intro w; kernel_rfl
  z85 := by intro w; kernel_rfl
  v85 := by intro w; kernel_rfl
  t127 := by kernel_rfl
  a127 := by intro w; kernel_rfl
  z127 := by intro w; kernel_rfl
  v127 := by intro w; kernel_rfl
  t143 := by kernel_rfl
  a143 := by intro w; kernel_rfl
  z143 := by intro w; kernel_rfl
  v143 := by intro w; kernel_rfl
  t145 := by kernel_rfl
  a145 := by intro w; kernel_rfl
  z145 := by intro w; kernel_rfl
  v145 := by intro w; kernel_rfl
  t167 := by kernel_rfl
  a167 := by intro w; kernel_rfl
  z167 := by intro w; kernel_rfl
  v167 := by intro w; kernel_rfl
  t168 := by kernel_rfl
  a168 := by intro w; kernel_rfl
  z168 := by intro w; kernel_rfl
  v168 := by intro w; kernel_rfl
  t171 := by kernel_rfl
  a171 := by intro w; kernel_rfl
  z171 := by intro w; kernel_rfl
  v171 := by intro w; kernel_rfl
  t173 := by kernel_rfl
  a173 := by intro w; kernel_rfl
  z173 := by intro w; kernel_rfl
  v173 := by intro w; kernel_rfl
  t175 := by kernel_rfl
  a175 := by intro w; kernel_rfl
  z175 := by intro w; kernel_rfl
  v175 := by intro w; kernel_rfl
  t210 := by kernel_rfl
  a210 := by intro w; kernel_rfl
  z210 := by intro w; kernel_rfl
  v210 := by intro w; kernel_rfl
  t212 := by kernel_rfl
  a212 := by intro w; kernel_rfl
  z212 := by intro w; kernel_rfl
  v212 := by intro w; kernel_rfl
  t213 := by kernel_rfl
  a213 := by intro w; kernel_rfl
  z213 := by intro w; kernel_rfl
  t232 := by kernel_rfl
  a232 := by intro w; kernel_rfl
  z232 := by intro w; kernel_rfl
  v232 := by intro w; kernel_rfl
  t233 := by kernel_rfl
  a233 := by intro w; kernel_rfl
  z233 := by intro w; kernel_rfl
  v233 := by intro w; kernel_rfl
  g15 := by kernel_rfl
  g16 := by kernel_rfl
  g17 := by kernel_rfl
  g18 := by kernel_rfl
  g19 := by kernel_rfl
  t80 := by kernel_rfl
  a80 := by intro w; kernel_rfl
  z80 := by intro w; kernel_rfl
  v80 := by intro w; kernel_rfl
  i0 := by kernel_rfl
  i2 := by kernel_rfl
  i3 := by kernel_rfl
  i4 := by kernel_rfl
  i5 := by kernel_rfl
  i9 := by kernel_rfl
  i20 := by kernel_rfl
  i21 := by kernel_rfl
  i37 := by kernel_rfl
  i46 := by kernel_rfl
  i51 := by kernel_rfl
  i53 := by kernel_rfl
  i75 := by kernel_rfl
  i76 := by kernel_rfl
  i80 := by kernel_rfl
  i85 := by kernel_rfl
  i127 := by kernel_rfl
  i143 := by kernel_rfl
  i145 := by kernel_rfl
  i167 := by kernel_rfl
  i168 := by kernel_rfl
  i171 := by kernel_rfl
  i173 := by kernel_rfl
  i175 := by kernel_rfl
  i210 := by kernel_rfl
  i212 := by kernel_rfl
  i232 := by kernel_rfl
  i233 := by kernel_rfl
  m15 := by kernel_rfl
  m16 := by kernel_rfl
  m17 := by kernel_rfl
  m18 := by kernel_rfl
  m19 := by kernel_rfl
  c0 := by kernel_rfl
  c2 := by kernel_rfl
  c3 := by kernel_rfl
  c4 := by kernel_rfl
  c5 := by kernel_rfl
  c9 := by kernel_rfl
  c20 := by kernel_rfl
  c21 := by kernel_rfl
  c37 := by kernel_rfl
  c46 := by kernel_rfl
  c51 := by kernel_rfl
  c53 := by kernel_rfl
  c75 := by kernel_rfl
  c76 := by kernel_rfl
  c80 := by kernel_rfl
  c85 := by kernel_rfl
  c127 := by kernel_rfl
  c143 := by kernel_rfl
  c145 := by kernel_rfl
  c167 := by kernel_rfl
  c168 := by kernel_rfl
  c171 := by kernel_rfl
  c173 := by kernel_rfl
  c175 := by kernel_rfl
  c210 := by kernel_rfl
  c212 := by kernel_rfl
  c213 := by kernel_rfl
  c232 := by kernel_rfl
  c233 := by kernel_rfl
theorem starErr : "*" ++ "errors.errorString" = "*errors.errorString" := by decide
theorem rowErr (u : TypeId) (h : Tryz.prog.typeName? 3 u = some "*errors.errorString") : u = 177 :=
  typeName_ptr_named (nm := "errors.errorString") (by rw [starErr]; kernel_rfl) (by kernel_rfl) (by decide) u (by rw [starErr]; exact h)
def layCont_ren : Go.Shelf.Ren := ⟨fun i => match i with | 15 => 118 | 17 => 96 | 20 => 135 | _ => 0, fun i => match i with | 0 => 0 | 2 => 2 | 3 => 3 | 4 => 4 | 5 => 5 | 9 => 9 | 20 => 20 | 21 => 21 | 23 => 125 | 80 => 97 | _ => 0, fun x => x⟩
set_option maxRecDepth 100000 in
theorem layCont : Go.Proofs.LaysGw.n17 Tryz.prog layCont_ren where
  mixed := mix
  f15 := Tryz.func118.trans (congrArg some (by kernel_rfl))
  f17 := Tryz.func96.trans (congrArg some (by kernel_rfl))
  f20 := Tryz.func135.trans (congrArg some (by kernel_rfl))
  t0 := by kernel_rfl
  a0 := by intro w; kernel_rfl
  z0 := by intro w; kernel_rfl
  v0 := by intro w; kernel_rfl
  i0 := by kernel_rfl
  t3 := by kernel_rfl
  a3 := by intro w; kernel_rfl
  z3 := by intro w; kernel_rfl
  v3 := by intro w; kernel_rfl
  i3 := by kernel_rfl
  t4 := by kernel_rfl
  a4 := by intro w; kernel_rfl
  z4 := by intro w; kernel_rfl
  v4 := by intro w; kernel_rfl
  i4 := by kernel_rfl
  t9 := by kernel_rfl
  a9 := by intro w; kernel_rfl
  z9 := by intro w; kernel_rfl
  v9 := by intro w; kernel_rfl
  i9 := by kernel_rfl
  t21 := by kernel_rfl
  a21 := by intro w; kernel_rfl
  z21 := by intro w; kernel_rfl
  v21 := by intro w; kernel_rfl
  i21 := by kernel_rfl
  t23 := by kernel_rfl
  a23 := by intro w; kernel_rfl
  z23 := by intro w; kernel_rfl
  v23 := by intro w; kernel_rfl
  i23 := by kernel_rfl
theorem pred97 (w : World) : PredAt Tryz.prog 97 #[] encR badR w := by
  intro W x hb
  unfold FnGives
  show Calls Tryz.prog 97 #[.int .i32 (x : Int)] W _
  go_enter Tryz.func97, Tryz.ntmps97
  go_wp2
  all_goals
    go_ret
    refine ⟨congrArg (fun b => Ending.returned (Value.bool b)) ?_, 0, rfl⟩
    simp only [badR]
    rw [Bool.eq_iff_iff]
    simp
    try omega
def rho88 : Go.Shelf.Ren := ⟨fun i => match i with | 29 => 105 | _ => 106, fun i => match i with | 24 => 77 | 9 => 111 | 3 => 3 | 4 => 4 | _ => 0, fun x => x⟩
theorem ins88 : InsOk Tryz.prog rho88 88 "slices.Insert[[]pleach/api.Prop,pleach/api.Prop]" Tryz.f105 sProp := by
  refine ⟨⟨mix, Tryz.func88.trans (congrArg some (by kernel_rfl)), Tryz.func105, by kernel_rfl, by kernel_rfl, by kernel_rfl, by kernel_rfl, by kernel_rfl, by kernel_rfl, by kernel_rfl, by kernel_rfl, by kernel_rfl, by decide⟩, by kernel_rfl, by kernel_rfl, by kernel_rfl, by kernel_rfl, by decide⟩
def layItoa_ren : Go.Shelf.Ren := ⟨fun i => match i with | 129 => 131 | 171 => 55 | 243 => 76 | 246 => 95 | 283 => 114 | 284 => 115 | 285 => 116 | 286 => 117 | 317 => 130 | 318 => 132 | 319 => 133 | 320 => 134 | 337 => 144 | 338 => 145 | _ => 0, fun i => match i with | 0 => 0 | 2 => 2 | 3 => 3 | 4 => 4 | 5 => 5 | 9 => 9 | 20 => 20 | 21 => 21 | 37 => 89 | 46 => 126 | 51 => 151 | 53 => 112 | 80 => 97 | 171 => 140 | 173 => 143 | 212 => 150 | 213 => 152 | 232 => 175 | 233 => 176 | _ => 0, fun i => match i with | 17 => 1 | 18 => 6 | 19 => 7 | _ => 0⟩
set_option maxRecDepth 100000 in
theorem layItoa : Go.Proofs.LaysM.n171 Tryz.prog layItoa_ren where
  mixed := mix
  f129 := Tryz.func131.trans (congrArg some (by kernel_rfl))
  f171 := Tryz.func55.trans (congrArg some (by kernel_rfl))
  f243 := Tryz.func76.trans (congrArg some (by kernel_rfl))
  f246 := Tryz.func95.trans (congrArg some (by kernel_rfl))
  f283 := Tryz.func114.trans (congrArg some (by kernel_rfl))
  f284 := Tryz.func115.trans (congrArg some (by kernel_rfl))
  f285 := Tryz.func116.trans (congrArg some (by kernel_rfl))
  f286 := Tryz.func117.trans (congrArg some (by kernel_rfl))
  f317 := Tryz.func130.trans (congrArg some (by kernel_rfl))
  f318 := Tryz.func132.trans (congrArg some (by kernel_rfl))
  f319 := Tryz.func133.trans (congrArg some (by kernel_rfl))
  f320 := Tryz.func134.trans (congrArg some (by kernel_rfl))
  f337 := Tryz.func144.trans (congrArg some (by kernel_rfl))
  f338 := Tryz.func145.trans (congrArg some (by kernel_rfl))
  t0 := by kernel_rfl
  a0 := by intro w; kernel_rfl
  z0 := by intro w; kernel_rfl
  v0 := by intro w; kernel_rfl
  t2 := by kernel_rfl
  a2 := by intro w; kernel_rfl
  z2 := by intro w; kernel_rfl
  v2 := by intro w; kernel_rfl
  t3 := by kernel_rfl
  a3 := by intro w; kernel_rfl
  z3 := by intro w; kernel_rfl
  v3 := by intro w; kernel_rfl
  t4 := by kernel_rfl
  a4 := by intro w; kernel_rfl
  z4 := by intro w; kernel_rfl
  v4 := by intro w; kernel_rfl
  t5 := by kernel_rfl
  a5 := by intro w; kernel_rfl
  z5 := by intro w; kernel_rfl
  v5 := by intro w; kernel_rfl
  t9 := by kernel_rfl
  a9 := by intro w; kernel_rfl
  z9 := by intro w; kernel_rfl
  v9 := by intro w; kernel_rfl
  t20 := by kernel_rfl
  a20 := by intro w; kernel_rfl
  z20 := by intro w; kernel_rfl
  v20 := by intro w; kernel_rfl
  t37 := by kernel_rfl
  a37 := by intro w; kernel_rfl
  z37 := by intro w; kernel_rfl
  v37 := by intro w; kernel_rfl
  t46 := by kernel_rfl
  a46 := by intro w; kernel_rfl
  z46 := by intro w; kernel_rfl
  v46 := by intro w; kernel_rfl
  t51 := by kernel_rfl
  a51 := by intro w; kernel_rfl
  z51 := by intro w; kernel_rfl
  v51 := by intro w; kernel_rfl
  t53 := by kernel_rfl
  a53 := by intro w; kernel_rfl
  z53 := by intro w; kernel_rfl
  v53 := by intro w; kernel_rfl
  t171 := by kernel_rfl
  a171 := by intro w; kernel_rfl
  z171 := by intro w; kernel_rfl
  v171 := by intro w; kernel_rfl
  t173 := by kernel_rfl
  a173 := by intro w; kernel_rfl
  z173 := by intro w; kernel_rfl
  v173 := by intro w; kernel_rfl
  t212 := by kernel_rfl
  a212 := by intro w; kernel_rfl
  z212 := by intro w; kernel_rfl
  v212 := by intro w; kernel_rfl
  t213 := by kernel_rfl
  a213 := by intro w; kernel_rfl
  z213 := by intro w; kernel_rfl
  t232 := by kernel_rfl
  a232 := by intro w; kernel_rfl
  z232 := by intro w; kernel_rfl
  v232 := by intro w; kernel_rfl
  t233 := by kernel_rfl
  a233 := by intro w; kernel_rfl
  z233 := by intro w; kernel_rfl
  v233 := by intro w; kernel_rfl
  g17 := by kernel_rfl
  g18 := by kernel_rfl
  g19 := by kernel_rfl
  i0 := by kernel_rfl
  i2 := by kernel_rfl
  i3 := by kernel_rfl
  i4 := by kernel_rfl
  i5 := by kernel_rfl
  i9 := by kernel_rfl
  i20 := by kernel_rfl
  i37 := by kernel_rfl
  i46 := by kernel_rfl
  i51 := by kernel_rfl
  i53 := by kernel_rfl
  i171 := by kernel_rfl
  i173 := by kernel_rfl
  i212 := by kernel_rfl
  i232 := by kernel_rfl
  i233 := by kernel_rfl
  m17 := by kernel_rfl
  m18 := by kernel_rfl
  m19 := by kernel_rfl
def laySplit_ren : Go.Shelf.Ren := ⟨fun i => match i with | 138 => 90 | 143 => 91 | 146 => 45 | 195 => 107 | 197 => 108 | 217 => 124 | 218 => 109 | 219 => 110 | 221 => 73 | 224 => 126 | 225 => 125 | 260 => 123 | 266 => 142 | 267 => 127 | 268 => 89 | 314 => 143 | _ => 0, fun i => match i with | 0 => 0 | 2 => 2 | 3 => 3 | 4 => 4 | 5 => 5 | 9 => 9 | 20 => 20 | 21 => 21 | 31 => 46 | 46 => 126 | 51 => 151 | 80 => 97 | 105 => 135 | 119 => 163 | 138 => 165 | 139 => 166 | 146 => 167 | _ => 0, fun i => match i with | 1 => 0 | 3 => 2 | 4 => 3 | _ => 0⟩
set_option maxRecDepth 100000 in
theorem laySplit : Go.Proofs.Lays.n146 Tryz.prog laySplit_ren where
  mixed := mix
  f138 := Tryz.func90.trans (congrArg some (by kernel_rfl))
  f143 := Tryz.func91.trans (congrArg some (by kernel_rfl))
  f146 := Tryz.func45.trans (congrArg some (by kernel_rfl))
  f195 := Tryz.func107.trans (congrArg some (by kernel_rfl))
  f197 := Tryz.func108.trans (congrArg some (by kernel_rfl))
  f217 := Tryz.func124.trans (congrArg some (by kernel_rfl))
  f218 := Tryz.func109.trans (congrArg some (by kernel_rfl))
  f219 := Tryz.func110.trans (congrArg some (by kernel_rfl))
  f221 := Tryz.func73.trans (congrArg some (by kernel_rfl))
  f224 := Tryz.func126.trans (congrArg some (by kernel_rfl))
  f225 := Tryz.func125.trans (congrArg some (by kernel_rfl))
  f260 := Tryz.func123.trans (congrArg some (by kernel_rfl))
  f266 := Tryz.func142.trans (congrArg some (by kernel_rfl))
  f267 := Tryz.func127.trans (congrArg some (by kernel_rfl))
  f268 := Tryz.func89.trans (congrArg some (by kernel_rfl))
  f314 := Tryz.func143.trans (congrArg some (by kernel_rfl))
  t0 := by kernel_rfl
  a0 := by intro w; kernel_rfl
  z0 := by intro w; kernel_rfl
  v0 := by intro w; kernel_rfl
  t3 := by kernel_rfl
  a3 := by intro w; kernel_rfl
  z3 := by intro w; kernel_rfl
  v3 := by intro w; kernel_rfl
  t4 := by kernel_rfl
  a4 := by intro w; kernel_rfl
  z4 := by intro w; kernel_rfl
  v4 := by intro w; kernel_rfl
  t5 := by kernel_rfl
  a5 := by intro w; kernel_rfl
  z5 := by intro w; kernel_rfl
  v5 := by intro w; kernel_rfl
  t9 := by kernel_rfl
  a9 := by intro w; kernel_rfl
  z9 := by intro w; kernel_rfl
  v9 := by intro w; kernel_rfl
  t21 := by kernel_rfl
  a21 := by intro w; kernel_rfl
  z21 := by intro w; kernel_rfl
  v21 := by intro w; kernel_rfl
  t31 := by kernel_rfl
  a31 := by intro w; kernel_rfl
  z31 := by intro w; kernel_rfl
  v31 := by intro w; kernel_rfl
  t46 := by kernel_rfl
  a46 := by intro w; kernel_rfl
  z46 := by intro w; kernel_rfl
  v46 := by intro w; kernel_rfl
  t51 := by kernel_rfl
  a51 := by intro w; kernel_rfl
  z51 := by intro w; kernel_rfl
  v51 := by intro w; kernel_rfl
  t105 := by kernel_rfl
  a105 := by intro w; kernel_rfl
  z105 := by intro w; kernel_rfl
  v105 := by intro w; kernel_rfl
  t119 := by kernel_rfl
  a119 := by intro w; kernel_rfl
  z119 := by intro w; kernel_rfl
  t138 := by kernel_rfl
  a138 := by intro w; kernel_rfl
  z138 := by intro w; kernel_rfl
  v138 := by intro w; kernel_rfl
  t139 := by kernel_rfl
  a139 := by intro w; kernel_rfl
  z139 := by intro w; kernel_rfl
  v139 := by intro w; kernel_rfl
  t146 := by kernel_rfl
  a146 := by intro w; kernel_rfl
  z146 := by intro w; kernel_rfl
  v146 := by intro w; kernel_rfl
  g1 := by kernel_rfl
  g3 := by kernel_rfl
  g4 := by kernel_rfl
theorem max_of {w : World} (h : w.ShapedOpen Tryz.prog) : ∃ m, w.cell? ⟨laySplit_ren.g 1, 0, none⟩ = some (.int .i64 m) :=
  cell_of_shapedOpen_int (g := 0) (t := 3) (zero := #[.int .i64 0]) h (of_decide_eq_true (by kernel_rfl)) (by kernel_rfl) rfl (by kernel_rfl) (by kernel_rfl) Tryz.underlying3
def layJoin_ren : Go.Shelf.Ren := ⟨fun i => match i with | 156 => 27 | 165 => 60 | 166 => 61 | 169 => 62 | 240 => 82 | 241 => 83 | 276 => 98 | 277 => 99 | _ => 0, fun i => match i with | 0 => 0 | 2 => 2 | 3 => 3 | 4 => 4 | 5 => 5 | 9 => 9 | 20 => 20 | 21 => 21 | 31 => 46 | 37 => 89 | 70 => 88 | 72 => 91 | 75 => 94 | 76 => 95 | 80 => 97 | 127 => 115 | 164 => 127 | _ => 0, fun x => x⟩
set_option maxRecDepth 100000 in
theorem layJoin : Go.Proofs.Lays.n156 Tryz.prog layJoin_ren where
  mixed := mix
  f156 := Tryz.func27.trans (congrArg some (by kernel_rfl))
  f165 := Tryz.func60.trans (congrArg some (by kernel_rfl))
  f166 := Tryz.func61.trans (congrArg some (by kernel_rfl))
  f169 := Tryz.func62.trans (congrArg some (by kernel_rfl))
  f240 := Tryz.func82.trans (congrArg some (by kernel_rfl))
  f241 := Tryz.func83.trans (congrArg some (by kernel_rfl))
  f276 := Tryz.func98.trans (congrArg some (by kernel_rfl))
  f277 := Tryz.func99.trans (congrArg some (by kernel_rfl))
  t0 := by kernel_rfl
  a0 := by intro w; kernel_rfl
  z0 := by intro w; kernel_rfl
  v0 := by intro w; kernel_rfl
  t3 := by kernel_rfl
  a3 := by intro w; kernel_rfl
  z3 := by intro w; kernel_rfl
  v3 := by intro w; kernel_rfl
  t4 := by kernel_rfl
  a4 := by intro w; kernel_rfl
  z4 := by intro w; kernel_rfl
  v4 := by intro w; kernel_rfl
  t9 := by kernel_rfl
  a9 := by intro w; kernel_rfl
  z9 := by intro w; kernel_rfl
  v9 := by intro w; kernel_rfl
  t20 := by kernel_rfl
  a20 := by intro w; kernel_rfl
  z20 := by intro w; kernel_rfl
  v20 := by intro w; kernel_rfl
  t31 := by kernel_rfl
  a31 := by intro w; kernel_rfl
  z31 := by intro w; kernel_rfl
  v31 := by intro w; kernel_rfl
  t37 := by kernel_rfl
  a37 := by intro w; kernel_rfl
  z37 := by intro w; kernel_rfl
  v37 := by intro w; kernel_rfl
  t70 := by kernel_rfl
  a70 := by intro w; kernel_rfl
  z70 := by intro w; kernel_rfl
  v70 := by intro w; kernel_rfl
  t72 := by kernel_rfl
  a72 := by intro w; kernel_rfl
  z72 := by intro w; kernel_rfl
  v72 := by intro w; kernel_rfl
  t75 := by kernel_rfl
  a75 := by intro w; kernel_rfl
  z75 := by intro w; kernel_rfl
  v75 := by intro w; kernel_rfl
  t76 := by kernel_rfl
  a76 := by intro w; kernel_rfl
  z76 := by intro w; kernel_rfl
  v76 := by intro w; kernel_rfl
  t127 := by kernel_rfl
  a127 := by intro w; kernel_rfl
  z127 := by intro w; kernel_rfl
  v127 := by intro w; kernel_rfl
  t164 := by kernel_rfl
  a164 := by intro w; kernel_rfl
  z164 := by intro w; kernel_rfl
  v164 := by intro w; kernel_rfl
theorem joinExtra : Builder.Extra Tryz.prog layJoin_ren where
  sizeBuilder := by kernel_rfl
  liesBuilder := by kernel_rfl
  t5 := by kernel_rfl
  a5 := by intro w; kernel_rfl
  z5 := by intro w; kernel_rfl
  v5 := by intro w; kernel_rfl
  infoByte := by kernel_rfl
  cellsByte := by kernel_rfl
  sizeByte := by kernel_rfl
  neB5 := by decide
theorem handed_shaped {H : Type} {enc : TypeId × Value → H} {a : Assume} {C : Checked} {os : Os} {f : FuncId} {fn : Func} {s : ChangeSpec} {conds : List PathCond} {apart fresh handsOn again : Bool} {X : World → Array Value → Prop}
    (hX : ∀ (w w' : World) (args : Array Value), w.heap = w'.heap → X w args → X w' args)
    (own : ownKnob C.prog.godebug = none) (started : os.Started) (noInit : C.prog.inits.idxOf? f = none) (hfn : C.prog.funcs[f]? = some fn)
    (witness : ∃ (w : World) (tape : Tape) (i : Input), w.os = os ∧ (w.forCall tape i).Shaped C.prog ∧ i.vars = [] ∧ Input.okWide C.prog (w.forCall tape i) .any w.heap.size f i ∧
      ((s.pre enc C.prog fn conds apart (w.forCall tape i).memory i.args ∧ X (w.forCall tape i).memory i.args) ∧ sizedMet enc C.prog fn (OpenSpec.ofChange s) apart (w.forCall tape i).memory i.args) ∧ a.holds C.prog (lone (Frame.enter C.prog f i.args .normal) [] (w.forCall tape i)))
    (contract : ∀ (W : World) (base : Nat) (args : Array Value) (ds gs : List (DataW H)) (before : List MemPlace),
      (∀ (j : Nat) t v, fn.params[j]? = some t → args[j]? = some v → Value.okWide C.prog W .any base t v) →
      DataW.Whole enc C.prog fn.params.toList s.vars apart W args.toList ds gs before →
      conds.all (PathCond.test C.prog ⟨fn.params.toList, ds, s.plain.varTypes C.prog, gs⟩) = true →
      (DataW.weightsEach C.prog (fn.params.toList ++ s.plain.varTypes C.prog) (ds ++ gs)).all (· ≤ reachBytes) = true → X W args ∧ W.ShapedOpen C.prog →
      a.holds C.prog (lone (Frame.enter C.prog f args .normal) [] W) →
      Calls C.prog f args W fun e W' => ∃ v, e = .returned v ∧ s.post enc C.prog fn apart fresh handsOn again W args v W') :
    ReturnsInHanded a C os f .any (fun w args => (s.pre enc C.prog fn conds apart w args ∧ X w args) ∧ sizedMet enc C.prog fn (OpenSpec.ofChange s) apart w args) (s.post enc C.prog fn apart fresh handsOn again) := by
  refine returnsInHanded_of_calls own started noInit witness ?_
  intro w tape i _ hsh _ hok hpre hholds
  obtain ⟨_, _, _, fn', hfn', _, _, _, _, hval⟩ := hok
  have e : fn' = fn := Option.some.inj (hfn'.symm.trans hfn)
  subst e
  obtain ⟨⟨⟨ds, gs, before, hw, hc⟩, hx⟩, hz⟩ := hpre
  have hw' := DataW.Whole.of_heap (w' := w.forCall tape i) (by rfl) hw
  refine (contract (w.forCall tape i) w.heap.size i.args ds gs before hval hw' hc (hz.weights hw) ⟨hX _ _ _ (by rfl) hx, hsh⟩ hholds).mono fun e W' ⟨v, he, hp⟩ => ?_
  subst he
  exact ChangeSpec.post_blind hp
theorem extok (htab : Lib.TabIs Tryz.prog W₀ "internal/strconv.uint64pow10" .u64 Lib.pow10Tab) {t1 t2 : TypeId} {p1 p2 : Value} (hsyn : W₀.var? Tryz.prog "strconv.ErrSyntax" = some #[.iface t1 p1]) (hran : W₀.var? Tryz.prog "strconv.ErrRange" = some #[.iface t2 p2]) {mx : Int} (hmax : W₀.cell? ⟨laySplit_ren.g 1, 0, none⟩ = some (.int .i64 mx)) : ExtOk W₀ Tryz.prog sg := .of (show extAll W₀ Tryz.prog sgT from
  ⟨.nothing rfl rfl,
  ⟨.nothing rfl rfl,
  ⟨.nothing rfl rfl,
  ⟨.nothing rfl rfl,
  ⟨.nothing rfl rfl,
  ⟨.nothing rfl rfl,
  ⟨.nothing rfl rfl,
  ⟨.nothing rfl rfl,
  ⟨.nothing rfl rfl,
  ⟨.nothing rfl rfl,
  ⟨.nothing rfl rfl,
  ⟨.nothing rfl rfl,
  ⟨.nothing rfl rfl,
  ⟨.nothing rfl rfl,
  ⟨.nothing rfl rfl,
  ⟨.nothing rfl rfl,
  ⟨.nothing rfl rfl,
  ⟨.nothing rfl rfl,
  ⟨.nothing rfl rfl,
  ⟨.nothing rfl rfl,
  ⟨.nothing rfl rfl,
  ⟨.nothing rfl rfl,
  ⟨.nothing rfl rfl,
  ⟨.nothing rfl rfl,
  ⟨(join_ext layJoin joinExtra rfl),
  ⟨.nothing rfl rfl,
  ⟨.nothing rfl rfl,
  ⟨.nothing rfl rfl,
  ⟨.nothing rfl rfl,
  ⟨.nothing rfl rfl,
  ⟨.nothing rfl rfl,
  ⟨.nothing rfl rfl,
  ⟨.nothing rfl rfl,
  ⟨.nothing rfl rfl,
  ⟨.nothing rfl rfl,
  ⟨.nothing rfl rfl,
  ⟨.nothing rfl rfl,
  ⟨.nothing rfl rfl,
  ⟨.nothing rfl rfl,
  ⟨.nothing rfl rfl,
  ⟨.nothing rfl rfl,
  ⟨.nothing rfl rfl,
  ⟨(split_ext laySplit rfl (by kernel_rfl) hmax),
  ⟨.nothing rfl rfl,
  ⟨.nothing rfl rfl,
  ⟨.nothing rfl rfl,
  ⟨.nothing rfl rfl,
  ⟨.nothing rfl rfl,
  ⟨.nothing rfl rfl,
  ⟨.nothing rfl rfl,
  ⟨.nothing rfl rfl,
  ⟨.nothing rfl rfl,
  ⟨(itoa_ext layItoa rfl htab),
  ⟨.nothing rfl rfl,
  ⟨.nothing rfl rfl,
  ⟨.nothing rfl rfl,
  ⟨.nothing rfl rfl,
  ⟨.nothing rfl rfl,
  ⟨.nothing rfl rfl,
  ⟨.nothing rfl rfl,
  ⟨.nothing rfl rfl,
  ⟨.nothing rfl rfl,
  ⟨.nothing rfl rfl,
  ⟨.nothing rfl rfl,
  ⟨.nothing rfl rfl,
  ⟨.nothing rfl rfl,
  ⟨.nothing rfl rfl,
  ⟨.nothing rfl rfl,
  ⟨.nothing rfl rfl,
  ⟨.nothing rfl rfl,
  ⟨.nothing rfl rfl,
  ⟨.nothing rfl rfl,
  ⟨.nothing rfl rfl,
  ⟨.nothing rfl rfl,
  ⟨.nothing rfl rfl,
  ⟨.nothing rfl rfl,
  ⟨.nothing rfl rfl,
  ⟨.nothing rfl rfl,
  ⟨(ins_ext ins88),
  ⟨.nothing rfl rfl,
  ⟨.nothing rfl rfl,
  ⟨.nothing rfl rfl,
  ⟨(cont_ext layCont rfl (enters_of Tryz.func97 (by kernel_rfl) rfl) pred97),
  ⟨(atoi_ext layAtoi rfl hsyn hran),
  ⟨.nothing rfl rfl,
  ⟨.nothing rfl rfl,
  ⟨.nothing rfl rfl,
  ⟨.nothing rfl rfl,
  ⟨.nothing rfl rfl,
  ⟨.nothing rfl rfl,
  ⟨.nothing rfl rfl,
  ⟨.nothing rfl rfl,
  ⟨.nothing rfl rfl,
  ⟨.nothing rfl rfl,
  trivial⟩⟩⟩⟩⟩⟩⟩⟩⟩⟩⟩⟩⟩⟩⟩⟩⟩⟩⟩⟩⟩⟩⟩⟩⟩⟩⟩⟩⟩⟩⟩⟩⟩⟩⟩⟩⟩⟩⟩⟩⟩⟩⟩⟩⟩⟩⟩⟩⟩⟩⟩⟩⟩⟩⟩⟩⟩⟩⟩⟩⟩⟩⟩⟩⟩⟩⟩⟩⟩⟩⟩⟩⟩⟩⟩⟩⟩⟩⟩⟩⟩⟩⟩⟩⟩⟩⟩⟩⟩⟩⟩⟩⟩⟩)
end Go.Proofs.YthbaafcoidjflaaGreatDoor.AE
end
section
namespace Go.Proofs.YthbaafcoidjflaaGreatDoor.AE.lineShows
open Go Go.ChangeShapes Go.WideShapes Go.ChangeAt Go.RowKit
open Go.ChangeMaps (open_string shut_string)
set_option linter.unusedVariables false
def Pure : Prop := ∀ (x0 : den ((.prod (.int .i64) (.prod .str (.prod .str (.prod .str (.prod .str (.prod (.list (.prod (.int .i64) (.prod .str (.prod .str (.prod .str (.prod .str (.prod (.int .i64) (.prod (.int .i64) .str)))))))) (.prod .str .str))))))))), Gd ((.prod (.int .i64) (.prod .str (.prod .str (.prod .str (.prod .str (.prod (.list (.prod (.int .i64) (.prod .str (.prod .str (.prod .str (.prod .str (.prod (.int .i64) (.prod (.int .i64) .str)))))))) (.prod .str .str)))))))) x0 → ∃ K, F.pleachlaw43_LineShows K x0 = some true
theorem door_met (os : Os) (args : Array Value) : laidMetH Tryz.prog Rows.lineShowsRow.laid ((World.laidAll Tryz.prog os Rows.lineShowsRow.laid).forCall (fun _ _ => 0) ⟨#[], args, []⟩).memory := by
  rw [MakeChecks.laidMetH_plain _ _ _ (by kernel_rfl)]
  exact laidMet_laidAll _ (by kernel_rfl) (by kernel_rfl)
theorem tab_is : (Rows.laid_internal_strconv_uint64pow10 : DataW Unit) = Lib.tabData .u64 Lib.pow10Tab := by kernel_rfl
theorem tab_of {W : World} (h : laidMetH Tryz.prog Rows.lineShowsRow.laid W) : Lib.TabIs Tryz.prog W "internal/strconv.uint64pow10" .u64 Lib.pow10Tab := by
  rw [MakeChecks.laidMetH_plain _ _ _ (by kernel_rfl)] at h
  obtain ⟨ps, ⟨_, _, _, _, _, _, _, _, _, _, ⟨_, _, _, _, _, _, _, _, _, _, ⟨g, t, cs, f, p, q, hg, ht, hv, hd, _, _⟩, _⟩, _⟩, _, _⟩ := h
  obtain rfl := Option.some.inj ((show Tryz.prog.globalNamed "internal/strconv.uint64pow10" = some 1 by kernel_rfl).symm.trans hg)
  obtain rfl := Option.some.inj ((show (Tryz.prog.globals[1]?).map (·.type) = some 150 by kernel_rfl).symm.trans ht)
  rw [tab_is] at hd
  unfold Lib.TabIs
  rw [hv, ← Lib.cells_of_tab Tryz.underlying150 Tryz.underlying112 (by kernel_rfl) (by kernel_rfl) hd]
theorem syn_of {W : World} (h : laidMetH Tryz.prog Rows.lineShowsRow.laid W) : ∃ t p, W.var? Tryz.prog "strconv.ErrSyntax" = some #[.iface t p] := by
  rw [MakeChecks.laidMetH_plain _ _ _ (by kernel_rfl)] at h
  obtain ⟨a1, s1, hv1, _⟩ := laid_sentinel (show laidMet Tryz.prog (_ :: _) W from h.tail.tail.tail.tail.tail) (show Tryz.prog.globalNamed "strconv.ErrSyntax" = some 4 by kernel_rfl) (show (Tryz.prog.globals[4]?).map (·.type) = some 94 by kernel_rfl) Tryz.underlying94 rowErr Tryz.underlying177 Tryz.underlying179 rfl rfl Tryz.underlying9 (by kernel_rfl) (by kernel_rfl)
  exact ⟨_, _, hv1⟩
theorem ran_of {W : World} (h : laidMetH Tryz.prog Rows.lineShowsRow.laid W) : ∃ t p, W.var? Tryz.prog "strconv.ErrRange" = some #[.iface t p] := by
  rw [MakeChecks.laidMetH_plain _ _ _ (by kernel_rfl)] at h
  obtain ⟨a1, s1, hv1, _⟩ := laid_sentinel (show laidMet Tryz.prog (_ :: _) W from h.tail.tail.tail.tail) (show Tryz.prog.globalNamed "strconv.ErrRange" = some 5 by kernel_rfl) (show (Tryz.prog.globals[5]?).map (·.type) = some 94 by kernel_rfl) Tryz.underlying94 rowErr Tryz.underlying177 Tryz.underlying179 rfl rfl Tryz.underlying9 (by kernel_rfl) (by kernel_rfl)
  exact ⟨_, _, hv1⟩
set_option maxRecDepth 100000 in
theorem lifted (pure : Pure) (os : Os) (started : os.Started) (H : Type) (enc : TypeId × Value → H) :
    ReturnsInHanded {} Tryz.checked os 3 .any (fun w args => (Rows.lineShowsSpec.pre enc Tryz.prog Tryz.f3 Rows.lineShowsRow.domain false w args ∧ laidMetH Tryz.prog Rows.lineShowsRow.laid w) ∧ sizedMet enc Tryz.prog Tryz.f3 (OpenSpec.ofChange Rows.lineShowsSpec) false w args) (Rows.lineShowsSpec.post enc Tryz.prog Tryz.f3 false true false false) := by
  refine handed_shaped (C := Tryz.checked) (X := (fun w _ => laidMetH Tryz.prog Rows.lineShowsRow.laid w)) (fun _ _ _ hh h => h.of_heap hh) own started (by kernel_rfl) Tryz.func3
    (ChangeSpec.witness_shaped (enc := enc) (C := Tryz.checked) (os := os) (X := (fun w _ => laidMetH Tryz.prog Rows.lineShowsRow.laid w)) false (World.laidAll Tryz.prog os Rows.lineShowsRow.laid) #[.agg #[.int .i64 0, .string ByteArray.empty, .string ByteArray.empty, .string ByteArray.empty, .string ByteArray.empty, .slice none 0 0, .string ByteArray.empty, .string ByteArray.empty]] 8 (World.laidAll_os _ _ _) (World.shaped_of_ZipB (by kernel_rfl) (by kernel_rfl)) (by kernel_rfl) (by kernel_rfl) (by kernel_rfl) (door_met os _)) ?_
  intro W base args ds gs before hval0 hW hcnd hsz0 ⟨hL, hSh⟩ _
  have hsz : (DataW.weightsEach Tryz.prog (Tryz.f3.params.toList ++ Rows.lineShowsSpec.plain.varTypes Tryz.prog) (ds ++ gs)).all (· ≤ reachBytes) = true := hsz0
  have hval : ∀ (j : Nat) t v, Tryz.f3.params[j]? = some t → args[j]? = some v → Value.okWide Tryz.prog W .any base t v := hval0
  have hW' := hW
  obtain ⟨p, q, hA0, hV, rfl, hfz, hnd⟩ := hW
  have hA : DataW.TrodAll enc Tryz.prog W 0 (fun _ => true) true Tryz.f3.params.toList args.toList ds p := hA0
  rw [Tryz.params3] at hA hval hsz
  obtain ⟨v0, vs0, d0, ds0, p0, q0, hargs, rfl, rfl, h0, r0⟩ := trodAll_cons hA
  obtain ⟨rfl, rfl, rfl⟩ := trodAll_nil r0
  obtain rfl : args = #[v0] := by cases args; simp_all
  obtain ⟨rfl, rfl⟩ := trodVars_none hV
  have k0 := h0
  have lt0 : ∀ x ∈ p0, x.block < W.heap.size := by obtain ⟨m, hm⟩ := k0; exact DataW.trod_lt m _ _ _ hm
  obtain ⟨cs0, rfl, _⟩ := okWide_struct Tryz.underlying24 (hval 0 24 v0 rfl rfl)
  obtain ⟨fuel0, hf0⟩ := h0
  obtain ⟨x0, S0, G0⟩ := fitT_ok (O := OX (NoX (W₀ := W)) [] []) (fun b => own_none) 20 24 ((.prod (.int .i64) (.prod .str (.prod .str (.prod .str (.prod .str (.prod (.list (.prod (.int .i64) (.prod .str (.prod .str (.prod .str (.prod .str (.prod (.int .i64) (.prod (.int .i64) .str)))))))) (.prod .str .str)))))))) (by kernel_rfl) fuel0 _ _ hf0 (fun m hm => by have hq := weights_each hsz (j := 0) (t := 24) rfl rfl m hm; exact of_decide_eq_true hq)
  obtain ⟨K, hk⟩ := pure x0 G0
  have ha : AV1sR (OX (NoX (W₀ := W)) [] []) W [] [.agg (inj ((.prod (.int .i64) (.prod .str (.prod .str (.prod .str (.prod .str (.prod (.list (.prod (.int .i64) (.prod .str (.prod .str (.prod .str (.prod .str (.prod (.int .i64) (.prod (.int .i64) .str)))))))) (.prod .str .str)))))))) x0)] (#[.agg cs0] : Array Value).toList := .cons (arg_agg S0) ⟨rfl, by simp⟩
  refine (law_calls (good Tryz.prog sg (extok (htab := tab_of hL) (hsyn := (syn_of hL).choose_spec.choose_spec) (hran := (ran_of hL).choose_spec.choose_spec) (hmax := (max_of hSh).choose_spec)) mix num K) (f := 3) (t := (true : Bool)) (b := true) hk rfl (fun O w ρ vals σ v h hv => bool_of h hv) ha).mono fun e W' ⟨he, hd⟩ => ?_
  have bel : Below W.heap.size W W' := hd
  subst he
  exact ⟨_, rfl, _, _, _, [], _, [], hW', trodAll_mk1 (shut_bool Tryz.underlying4 _), (trodAll_cons_mk (Below.trod laidOut (by kernel_rfl) (of_decide_eq_true (by kernel_rfl)) k0 bel lt0) trodAll_mk0), rfl, bel.frame _, fun h => by cases h⟩
theorem over (pure : Pure) : Rows.lineShowsRow.holds Tryz.pinned (OpenSpec.ofChange Rows.lineShowsSpec) :=
  OpenClaim.holds_of_wide 3 Tryz.f3 rfl rfl rfl rfl rfl rfl rfl ⟨rfl, rfl, rfl, rfl, rfl⟩ rfl rfl rfl rfl rfl (by kernel_rfl) Tryz.func3 (by kernel_rfl)
    (of_decide_eq_true (by kernel_rfl)) (by unfold Func.isWrapper; first | (rw [if_pos (by decide +kernel)]; kernel_rfl) | (rw [if_neg (by decide +kernel)]; exact ⟨rfl, rfl⟩))
    (fun os started H enc _ => lifted pure os started H enc)
theorem proved (pure : Pure) : Rows.LineShowsSaid := over pure
theorem card (pure : Pure) : Rows.LineShowsCardSaid :=
  Claim7.holds_tied_plain_at .later [] [.data, .data, .data, .data, .sentinel, .sentinel, .pinned] true (true, "37c322a846269f2a6058176da1fdc10782fe381962436e72b44f1cc4d0f1b0e7") true
    (proved pure) (fun _ h => by cases h) (by kernel_rfl) (fun _ h => by cases h) lineShows_row_tie rfl ⟨rfl, rfl⟩ (by kernel_rfl) rfl
    (fun f fn hf hfn => by
      obtain rfl : f = 3 := Option.some.inj ((show Tryz.prog.funcNamed "pleach/pleachlaw43.LineShows" = some 3 by kernel_rfl).symm.trans hf) |>.symm
      obtain rfl : fn = Tryz.f3 := (Option.some.inj (Tryz.func3.symm.trans hfn)).symm
      refine ⟨by kernel_rfl, fun j t ht => ?_⟩
      rw [Tryz.params3] at ht
      have hm : t ∈ [24] := by
        have := Array.mem_of_getElem? ht
        simpa using this
      simp only [List.mem_cons, List.mem_nil_iff, or_false] at hm
      obtain rfl := hm
      · exact (show Tryz.prog.wantsStandIn 24 = false by kernel_rfl))
    (by kernel_rfl)
end Go.Proofs.YthbaafcoidjflaaGreatDoor.AE.lineShows
end
