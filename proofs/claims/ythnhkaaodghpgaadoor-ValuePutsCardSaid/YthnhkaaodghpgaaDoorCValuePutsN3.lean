/- The evaluator of the program's form, its soundness, the functions of the given program as it evaluates them, and laws on these. Conditions: as each theorem says. -/
import Derived.Test.YthnhkaaodghpgaaDoorCValuePutsN2
import Derived.Laws.BitsLemmas
import Derived.Test.YthnhkaaodghpgaaDoorRows
import Derived.WalkKit
import Derived.ProofKit
import Derived.OpenShut
import Derived.ShutString
import Derived.ChangeOld
import Derived.Below
import Derived.SizedLaws
import Derived.LaidMore
import Derived.Stop.Joined
import Derived.Test.YthnhkaaodghpgaaDoorTie
import Derived.Test.YthnhkaaodghpgaaDoorCards
import Derived.SevenTiedAt
section
set_option linter.unusedVariables false
set_option linter.unusedSimpArgs false
namespace Go.Proofs.YthnhkaaodghpgaaDoor.AE
open Go

/-- A number's bytes, seven bits a byte, 128 more in all but the last. -/
def vput : Nat → Nat → List Int
  | 0, _ => []
  | f + 1, n => if n < 128 then [(n : Int)] else ((n % 128 + 128 : Nat) : Int) :: vput f (n / 128)
theorem vput_len : ∀ f n : Nat, (vput f n).length ≤ f
  | 0, _ => by simp [vput]
  | f + 1, n => by
    unfold vput
    split
    · simp
    · have := vput_len f (n / 128)
      simp
      omega
def numB (n : Nat) : ByteArray := bytesOf (vput 10 n)
theorem numB_size (n : Nat) : (numB n).size ≤ 10 := by unfold numB; rw [strOfNums_size]; exact vput_len 10 n
theorem or128 (c : Int) (h0 : 0 ≤ c) (h1 : c < 256) : (((BitVec.ofInt 8 c ||| BitVec.ofInt 8 128).toNat : Nat) : Int) = c % 128 + 128 := by
  obtain ⟨n, rfl⟩ := Int.eq_ofNat_of_zero_le h0
  have key : ∀ m : Fin 256, (BitVec.ofInt 8 (m.1 : Int) ||| BitVec.ofInt 8 128).toNat = m.1 % 128 + 128 := by decide +kernel
  have := key ⟨n, by omega⟩
  simp only at this
  rw [this]
  omega
theorem repl_len {α : Type} (a : α) : ∀ n, (repl n a).length = n
  | 0 => rfl
  | n + 1 => by simp [repl, repl_len a n]
theorem take_set_succ {α : Type} (l : List α) (i : Nat) (x : α) (h : i < l.length) : (l.set i x).take (i + 1) = l.take i ++ [x] := by
  rw [List.take_add_one, List.take_set, List.set_eq_of_length_le (by rw [List.length_take]; omega)]
  simp [h]
theorem varint_Put_l (a : Int) : ∀ (f n i : Nat) (arr : List Int), n < 128 ^ (f + 1) → i + f + 1 ≤ 10 → arr.length = 10 → V.varint_Put.l11100 a (n : Int) (i : Int) arr = some (bytesOf (arr.take i ++ vput (f + 1) n))
  | f, n, i, arr, hn, hi, ha => by
    refine V.varint_Put.l11100.of _ _ _ _ ?_
    unfold F.varint_Put.l11100.B
    have e7 : Int.fdiv (n : Int) (2 ^ 7) = ((n / 128 : Nat) : Int) := by rw [Int.fdiv_eq_ediv_of_nonneg _ (by decide)]; rfl
    rw [e7, w64_id (x := (i : Int) + 1) (by omega) (by omega)]
    simp only [u8_mod]
    by_cases h : n < 128
    · rw [if_no (by omega), guard_of (by simp [ha]; omega), guard_of (by simp [ha]; omega)]
      have e1 : (n : Int) % 256 = n := by omega
      have e2 : ((i : Int) + 1).toNat = i + 1 := rfl
      rw [e1, e2, nat_cast, List.drop_zero, take_set_succ _ _ _ (by omega)]
      have e3 : vput (f + 1) n = [(n : Int)] := by unfold vput; rw [if_pos h]
      rw [e3]
    · cases f with
      | zero => simp at hn; omega
      | succ f =>
        rw [if_yes (by omega), guard_of (by simp [ha]; omega), or128 _ (by omega) (by omega), nat_cast]
        have ih := varint_Put_l a f (n / 128) (i + 1) (arr.set i (((n : Int) % 256 % 128 + 128) % 256)) (by rw [Nat.pow_succ] at hn; exact Nat.div_lt_of_lt_mul (by omega)) (by omega) (by simp [ha])
        rw [show ((i : Int) + 1) = ((i + 1 : Nat) : Int) by omega, ih, take_set_succ _ _ _ (by omega)]
        have e3 : vput (f + 1 + 1) n = ((n % 128 + 128 : Nat) : Int) :: vput (f + 1) (n / 128) := by rw [vput, if_neg h]
        rw [e3, List.append_assoc]
        have e4 : ((n : Int) % 256 % 128 + 128) % 256 = ((n % 128 + 128 : Nat) : Int) := by omega
        rw [e4]
        rfl
theorem varint_Put_ok {n : Nat} (h1 : n < 18446744073709551616) : V.varint_Put (n : Int) = some (numB n) := by
  refine V.varint_Put.of _ ?_
  unfold F.varint_Put.B
  have := varint_Put_l (n : Int) 9 n 0 (repl 10 0) (by omega) (by omega) (repl_len _ _)
  rw [show (0 : Int) = ((0 : Nat) : Int) from rfl] at this ⊢
  rw [this]
  rfl
theorem Put_eq {n : Int} (h0 : 0 ≤ n) (h1 : n < 18446744073709551616) : V.varint_Put n = some (numB n.toNat) := by
  obtain ⟨m, rfl⟩ := Int.eq_ofNat_of_zero_le h0
  exact varint_Put_ok (by omega)

/-- The digits to the base 128. -/
def digs : Nat → Nat → List Int
  | 0, _ => []
  | f + 1, n => ((n % 128 : Nat) : Int) :: if n < 128 then [] else digs f (n / 128)
theorem digs_len : ∀ f n : Nat, (digs f n).length ≤ f
  | 0, _ => by simp [digs]
  | f + 1, n => by
    unfold digs
    split
    · simp
    · have := digs_len f (n / 128)
      simp
      omega
theorem div128 (n : Nat) : Int.tdiv (n : Int) 128 = ((n / 128 : Nat) : Int) := by rw [Int.tdiv_eq_ediv_of_nonneg (by omega)]; omega
theorem mod128 (n : Nat) : Int.tmod (n : Int) 128 = ((n % 128 : Nat) : Int) := by rw [Int.tmod_eq_emod_of_nonneg (by omega)]; omega
theorem digits_l (a : Int) : ∀ (f n : Nat) (pre : List Int), n < 128 ^ f → n < 18446744073709551616 → pre.length + f ≤ 100 →
    V.pleachref01_Digits.l11100 a (n : Int) pre = some (pre ++ if n = 0 then [] else digs f n)
  | 0, n, pre, hn, _, _ => by
    have : n = 0 := by simpa using hn
    subst this
    refine V.pleachref01_Digits.l11100.of _ _ _ ?_
    unfold F.pleachref01_Digits.l11100.B
    rw [if_no (by omega)]
    simp
  | f + 1, n, pre, hn, h64, hl => by
    refine V.pleachref01_Digits.l11100.of _ _ _ ?_
    unfold F.pleachref01_Digits.l11100.B
    by_cases h0 : n = 0
    · subst h0
      rw [if_no (by omega)]
      simp
    · rw [if_yes (by omega), guard_dec (by simp [nmax]; omega), div128, mod128, u64_id (by omega) (by omega), w64_id (by omega) (by omega)]
      rw [digits_l a f (n / 128) _ (by rw [Nat.pow_succ] at hn; exact Nat.div_lt_of_lt_mul (by omega)) (by omega) (by simp; omega)]
      rw [if_neg h0]
      have : digs (f + 1) n = ((n % 128 : Nat) : Int) :: if n < 128 then [] else digs f (n / 128) := rfl
      rw [this]
      by_cases hlt : n < 128
      · have : n / 128 = 0 := by omega
        simp [this, hlt]
      · have : ¬ n / 128 = 0 := by omega
        simp [this, hlt]
theorem digits_ok (n : Nat) (h64 : n < 18446744073709551616) : V.pleachref01_Digits (n : Int) = some (digs 10 n) := by
  refine V.pleachref01_Digits.of _ ?_
  unfold F.pleachref01_Digits.B
  rw [div128, mod128, u64_id (by omega) (by omega), w64_id (by omega) (by omega)]
  rw [digits_l (n : Int) 9 (n / 128) _ (by omega) (by omega) (by simp)]
  have : digs 10 n = ((n % 128 : Nat) : Int) :: if n < 128 then [] else digs 9 (n / 128) := rfl
  rw [this]
  by_cases hlt : n < 128
  · have : n / 128 = 0 := by omega
    simp [this, hlt]
  · have : ¬ n / 128 = 0 := by omega
    simp [this, hlt]
theorem digs_at : ∀ (f n i : Nat), n < 128 ^ f → i < (digs f n).length → 0 ≤ (digs f n).getD i 0 ∧ (digs f n).getD i 0 < 128
  | 0, _, _, _, h => by simp [digs] at h
  | f + 1, n, 0, _, _ => by simp [digs]; omega
  | f + 1, n, i + 1, hn, h => by
    unfold digs at h ⊢
    by_cases hlt : n < 128
    · simp [hlt] at h
    · simp only [hlt, if_false] at h ⊢
      have := digs_at f (n / 128) i (by rw [Nat.pow_succ] at hn; exact Nat.div_lt_of_lt_mul (by omega)) (by simpa using h)
      simpa using this
/-- With the marks: all but the last have 128 more. -/
def marks : List Int → List Int
  | [] => []
  | [c] => [c]
  | c :: d :: r => (c + 128) :: marks (d :: r)
theorem marks_digs : ∀ (f n : Nat), n < 128 ^ f → marks (digs f n) = vput f n
  | 0, n, h => by simp [digs, marks, vput]
  | f + 1, n, h => by
    unfold digs vput
    by_cases hlt : n < 128
    · simp [hlt, marks]
      omega
    · simp only [hlt, if_false]
      cases f with
      | zero => simp at h; omega
      | succ f =>
        have ih := marks_digs (f + 1) (n / 128) (by rw [Nat.pow_succ] at h; exact Nat.div_lt_of_lt_mul (by omega))
        rw [show digs (f + 1) (n / 128) = ((n / 128 % 128 : Nat) : Int) :: if n / 128 < 128 then [] else digs f (n / 128 / 128) from rfl] at ih ⊢
        rw [marks, ih]
        simp
theorem one_size (c : Int) : (bytesOf [c]).size = 1 := strOfNums_size [c]
theorem put_l (a : Int) (l : List Int) (hl : l.length ≤ 10) (hd : ∀ i, i < l.length → 0 ≤ l.getD i 0 ∧ l.getD i 0 < 128) : ∀ (d i : Nat) (out : ByteArray), i + d = l.length → out.size ≤ i →
    V.pleachref01_Put.l111010 a out (i : Int) l = some (out ++ bytesOf (marks (l.drop i)))
  | 0, i, out, h, ho => by
    refine V.pleachref01_Put.l111010.of _ _ _ _ ?_
    unfold F.pleachref01_Put.l111010.B
    rw [if_out (by omega), List.drop_eq_nil_of_le (by omega)]
    simp [marks, bytesOf]
    apply ByteArray.ext
    simp
  | d + 1, i, out, h, ho => by
    refine V.pleachref01_Put.l111010.of _ _ _ _ ?_
    unfold F.pleachref01_Put.l111010.B
    have hil : i < l.length := by omega
    have hb := hd i hil
    have hg : l.getD i 0 = l[i] := by simp [List.getD_eq_getElem?_getD, List.getElem?_eq_getElem hil]
    have hr : rd (.int .i64) l i = l[i] := rd_get (e := .int .i64) hil
    have hdr : l.drop i = l[i] :: l.drop (i + 1) := List.drop_eq_getElem_cons hil
    rw [hg] at hb
    rw [if_in hil, guard_in hil, w64_up hil (by omega), nat_cast, hr, w64_id (x := l[i] + 128) (by omega) (by omega), u8_mod, u8_mod]
    rw [guard_dec (by rw [one_size]; simp [i64max]; omega), guard_dec (by rw [one_size]; simp [i64max]; omega)]
    have ih : ∀ c : Int, V.pleachref01_Put.l111010 a (out ++ bytesOf [c]) ((i + 1 : Nat) : Int) l = _ := fun c => put_l a l hl hd d (i + 1) _ (by omega) (by rw [ByteArray.size_append, one_size]; omega)
    rw [ih, ih]
    by_cases hlast : i + 1 < l.length
    · rw [if_in hlast, hdr, List.drop_eq_getElem_cons hlast, marks, ← List.drop_eq_getElem_cons hlast]
      rw [ByteArray.append_assoc, ← strOfNums_append]
      have : (l[i] + 128) % 256 = l[i] + 128 := by omega
      rw [this]
      rfl
    · rw [if_out (by omega)]
      have hnil : l.drop (i + 1) = [] := List.drop_eq_nil_of_le (by omega)
      rw [hdr, hnil, marks]
      have : l[i] % 256 = l[i] := by omega
      rw [this, ByteArray.append_assoc, ← strOfNums_append]
      rfl
theorem refPut_ok (n : Nat) (h64 : n < 18446744073709551616) : V.pleachref01_Put (n : Int) = some (numB n) := by
  refine V.pleachref01_Put.of _ ?_
  unfold F.pleachref01_Put.B
  rw [digits_ok n h64, Option.bind_some]
  have hn : n < 128 ^ 10 := by omega
  have := put_l (n : Int) (digs 10 n) (digs_len 10 n) (fun i hi => digs_at 10 n i hn hi) (digs 10 n).length 0 ⟨#[]⟩ (by omega) (by simp [ByteArray.size])
  rw [show (0 : Int) = ((0 : Nat) : Int) from rfl, this, List.drop_zero, marks_digs 10 n hn]
  congr 1
theorem xor_zero (x : Int) (h0 : 0 ≤ x) (h1 : x < 18446744073709551616) : (((BitVec.ofInt 64 x ^^^ BitVec.ofInt 64 0).toNat : Nat) : Int) = x := by
  obtain ⟨n, rfl⟩ := Int.eq_ofNat_of_zero_le h0
  have e2 : (BitVec.ofInt 64 (n : Int) ^^^ BitVec.ofInt 64 0).toNat = n := by
    have : BitVec.ofInt 64 0 = 0#64 := rfl
    rw [this, BitVec.xor_zero, BitVec.toNat_ofInt]
    omega
  rw [e2]
theorem xor_ones (x : Int) (h0 : 0 ≤ x) (h1 : x < 18446744073709551616) : (((BitVec.ofInt 64 x ^^^ BitVec.ofInt 64 18446744073709551615).toNat : Nat) : Int) = 18446744073709551615 - x := by
  obtain ⟨n, rfl⟩ := Int.eq_ofNat_of_zero_le h0
  have : BitVec.ofInt 64 18446744073709551615 = BitVec.allOnes 64 := by decide
  rw [this, BitVec.xor_allOnes, BitVec.toNat_not, BitVec.toNat_ofInt]
  omega
/-- A number's place among 0, -1, 1, -2, 2. -/
def zig (a : Int) : Int := if 0 ≤ a then 2 * a else -2 * a - 1
theorem zig_bound {a : Int} (h0 : -9223372036854775808 ≤ a) (h1 : a ≤ 9223372036854775807) : 0 ≤ zig a ∧ zig a < 18446744073709551616 := by unfold zig; split <;> omega
theorem zig_ok {a : Int} (h0 : -9223372036854775808 ≤ a) (h1 : a ≤ 9223372036854775807) : V.varint_Zig a = some (zig a) := by
  refine V.varint_Zig.of _ ?_
  unfold F.varint_Zig.B zig
  have e1 : (2 : Int) ^ 1 = 2 := rfl
  have e2 : Int.fdiv a (2 ^ 63) = a / 9223372036854775808 := by rw [Int.fdiv_eq_ediv_of_nonneg _ (by decide)]; rfl
  congr 1
  rw [e1, e2]
  by_cases h : 0 ≤ a
  · rw [if_pos h, u64_id (x := a) (by omega) (by omega), u64_id (x := a * 2) (by omega) (by omega), show a / 9223372036854775808 = 0 by omega, u64_id (x := 0) (by omega) (by omega), xor_zero _ (by omega) (by omega), u64_id (by omega) (by omega)]
    omega
  · rw [if_neg h, show a / 9223372036854775808 = -1 by omega]
    have e1 : IntKind.wrap .u64 a = a + 18446744073709551616 := by rw [u64_mod]; omega
    have e2 : IntKind.wrap .u64 (-1) = 18446744073709551615 := by rw [u64_mod]; rfl
    have e3 : IntKind.wrap .u64 ((a + 18446744073709551616) * 2) = 2 * a + 18446744073709551616 := by rw [u64_mod]; omega
    rw [e1, e2, e3, xor_ones _ (by omega) (by omega), u64_id (by omega) (by omega)]
    omega
theorem refZig_ok {a : Int} (h0 : -9223372036854775808 ≤ a) (h1 : a ≤ 9223372036854775807) : V.pleachref01_Zig a = some (zig a) := by
  refine V.pleachref01_Zig.of _ ?_
  unfold F.pleachref01_Zig.B zig
  by_cases h : a ≥ 0
  · rw [if_yes h, if_pos (by omega), u64_id (x := a) (by omega) (by omega), u64_id (by omega) (by omega)]
    congr 1
    omega
  · rw [if_no h, if_neg (by omega), w64_id (x := a + 1) (by omega) (by omega), w64_id (by omega) (by omega), u64_id (x := 0 - (a + 1)) (by omega) (by omega), u64_id (x := (0 - (a + 1)) * 2) (by omega) (by omega), u64_id (by omega) (by omega)]
    congr 1
    omega

/-- A text's bytes: how many it has, and these. -/
def textB (s : ByteArray) : ByteArray := numB s.size ++ s
theorem textB_size (s : ByteArray) : (textB s).size ≤ 10 + s.size := by
  unfold textB
  rw [ByteArray.size_append]
  have := numB_size s.size
  omega
theorem PutText_ok (s : ByteArray) (hs : s.size ≤ 140737488351232) : V.scan_PutText s = some (textB s) := by
  refine V.scan_PutText.of _ ?_
  unfold F.scan_PutText.B
  have := numB_size s.size
  rw [u64_id (by omega) (by omega), varint_Put_ok (by omega), Option.bind_some, guard_dec (by simp [i64max]; omega)]
  rfl
theorem refPutText_ok (s : ByteArray) (hs : s.size ≤ 140737488351232) : V.pleachref04_PutText s = some (textB s) := by
  refine V.pleachref04_PutText.of _ ?_
  unfold F.pleachref04_PutText.B
  have := numB_size s.size
  rw [u64_id (by omega) (by omega), refPut_ok _ (by omega), Option.bind_some, guard_dec (by simp [i64max]; omega)]
  rfl
/-- A value's bytes. -/
def valB (v : TValue) : ByteArray :=
  if valueB v = true then
    (if v.1 = 1 then bytesOf [1, v.2.1] else if v.1 = 2 then bytesOf [2] ++ numB (zig v.2.1).toNat else bytesOf [3] ++ textB v.2.2)
  else ⟨#[]⟩
theorem lit_one (n : UInt8) (c : Int) (h : UInt8.ofNat c.toNat = n) : (⟨#[n]⟩ : ByteArray) = bytesOf [c] := by
  unfold bytesOf; simp [h]
theorem value_Put_ok (v : TValue) (hb : -9223372036854775808 ≤ v.2.1 ∧ v.2.1 ≤ 9223372036854775807) : V.value_Put v = some (valB v, if valueB v then 0 else 2) := by
  refine V.value_Put.of _ ?_
  obtain ⟨a, b, s⟩ := v
  unfold F.value_Put.B
  simp only at hb ⊢
  rw [value_Check_ok, Option.bind_some]
  unfold valB
  cases hv : valueB (a, b, s) with
  | false => simp
  | true =>
    simp only [if_true]
    unfold valueB at hv
    by_cases a1 : a = 1
    · subst a1
      simp at hv
      have hb2 : b % 256 = b := by omega
      simp only [u8_mod, hb2]
      rw [guard_dec (by rw [one_size, one_size]; simp [i64max]), ← strOfNums_append]
      rfl
    · by_cases a2 : a = 2
      · subst a2
        have hz := zig_bound hb.1 hb.2
        have e : V.scan_PutInt b = some (numB (zig b).toNat) := by
          refine V.scan_PutInt.of _ ?_
          unfold F.scan_PutInt.B
          have : V.varint_Int b = some (numB (zig b).toNat) := by
            refine V.varint_Int.of _ ?_
            unfold F.varint_Int.B
            rw [zig_ok hb.1 hb.2, Option.bind_some, Put_eq hz.1 hz.2, Option.bind_some]
          rw [this, Option.bind_some]
        have := numB_size (zig b).toNat
        rw [e, Option.bind_some, guard_dec (p := _ ≤ _) (a := some (bytesOf [_] ++ numB (zig b).toNat, (0 : Int))) (by rw [one_size]; simp [i64max]; omega)]
        simp [u8_mod]
      · have a3 : a = 3 := by simp [a1, a2] at hv; exact hv.1.1
        have h64 : s.size ≤ 64 := by simp [a1, a2] at hv; exact hv.2
        subst a3
        have := textB_size s
        rw [PutText_ok s (by omega), Option.bind_some, guard_dec (p := _ ≤ _) (a := some (bytesOf [_] ++ textB s, (0 : Int))) (by rw [one_size]; simp [i64max]; omega)]
        simp [u8_mod]
theorem refVPut_ok (v : TValue) (hb : -9223372036854775808 ≤ v.2.1 ∧ v.2.1 ≤ 9223372036854775807) : V.pleachref06_Put v = some (valB v) := by
  refine V.pleachref06_Put.of _ ?_
  obtain ⟨a, b, s⟩ := v
  unfold F.pleachref06_Put.B
  simp only at hb ⊢
  rw [refVIs_ok, Option.bind_some]
  unfold valB
  cases hv : valueB (a, b, s) with
  | false => simp
  | true =>
    simp only [if_true]
    unfold valueB at hv
    by_cases a1 : a = 1
    · subst a1
      simp at hv
      have hb2 : b % 256 = b := by omega
      simp [u8_mod, hb2]
    · by_cases a2 : a = 2
      · subst a2
        have hz := zig_bound hb.1 hb.2
        have := numB_size (zig b).toNat
        rw [refZig_ok hb.1 hb.2]
        obtain ⟨z, ez⟩ := Int.eq_ofNat_of_zero_le hz.1
        simp only [Option.bind_some]
        rw [ez, refPut_ok z (by omega), Option.bind_some, guard_dec (p := _ ≤ _) (a := some ((⟨#[2]⟩ : ByteArray) ++ numB z)) (by have e : (⟨#[2]⟩ : ByteArray).size = 1 := rfl; rw [e]; have := numB_size z; unfold i64max; omega), lit_one 2 2 rfl]
        simp
      · have a3 : a = 3 := by simp [a1, a2] at hv; exact hv.1.1
        have h64 : s.size ≤ 64 := by simp [a1, a2] at hv; exact hv.2
        subst a3
        have := textB_size s
        rw [refPutText_ok s (by omega), Option.bind_some, guard_dec (p := _ ≤ _) (a := some ((⟨#[3]⟩ : ByteArray) ++ textB s)) (by have e : (⟨#[3]⟩ : ByteArray).size = 1 := rfl; rw [e]; unfold i64max; omega), lit_one 3 3 rfl]
        simp
end Go.Proofs.YthnhkaaodghpgaaDoor.AE
end
section
set_option linter.unusedVariables false
set_option linter.unusedSimpArgs false
namespace Go.Proofs.YthnhkaaodghpgaaDoor.AE
open Go

end Go.Proofs.YthnhkaaodghpgaaDoor.AE
end
section
set_option linter.unusedVariables false
set_option linter.unusedSimpArgs false
namespace Go.Proofs.YthnhkaaodghpgaaDoor.AE
open Go

theorem app_nil (s : ByteArray) : s ++ (⟨#[]⟩ : ByteArray) = s := by apply ByteArray.ext; simp
theorem nil_app (s : ByteArray) : (⟨#[]⟩ : ByteArray) ++ s = s := by apply ByteArray.ext; simp
/-! ### Nodes and edges -/

end Go.Proofs.YthnhkaaodghpgaaDoor.AE
end
section
set_option linter.unusedVariables false
set_option linter.unusedSimpArgs false
set_option maxRecDepth 4000
namespace Go.Proofs.YthnhkaaodghpgaaDoor.AE
open Go

theorem bt_range (s : ByteArray) (i : Int) : 0 ≤ byteAt s i ∧ byteAt s i < 256 := by
  unfold byteAt
  have := UInt8.toNat_lt (s.data.toList.getD i.toNat 0)
  omega
/-! lists of bytes that are one number's -/
/-! the reference -/
/-! ### What stands where -/

end Go.Proofs.YthnhkaaodghpgaaDoor.AE
end
section
set_option linter.unusedVariables false
set_option linter.unusedSimpArgs false
set_option maxRecDepth 4000
namespace Go.Proofs.YthnhkaaodghpgaaDoor.AE
open Go

end Go.Proofs.YthnhkaaodghpgaaDoor.AE
end
section
set_option linter.unusedVariables false
set_option linter.unusedSimpArgs false
set_option maxRecDepth 4000
namespace Go.Proofs.YthnhkaaodghpgaaDoor.AE
open Go

end Go.Proofs.YthnhkaaodghpgaaDoor.AE
end
section
set_option linter.unusedVariables false
set_option linter.unusedSimpArgs false
set_option maxRecDepth 4000
namespace Go.Proofs.YthnhkaaodghpgaaDoor.AE
open Go

/-! rows of texts, of properties -/
end Go.Proofs.YthnhkaaodghpgaaDoor.AE
end
section
set_option linter.unusedVariables false
set_option linter.unusedSimpArgs false
namespace Go.Proofs.YthnhkaaodghpgaaDoor.AE
open Go

abbrev hexD : ByteArray := ⟨#[48, 49, 50, 51, 52, 53, 54, 55, 56, 57, 97, 98, 99, 100, 101, 102]⟩
def hexL (s : ByteArray) : Nat → Nat → List Int
  | 0, _ => []
  | d + 1, i => byteAt hexD (byteAt s (i : Int) / 16) :: byteAt hexD (byteAt s (i : Int) % 16) :: hexL s d (i + 1)
def hexB (s : ByteArray) : ByteArray := bytesOf (hexL s s.size 0)
theorem hexL_len (s : ByteArray) : ∀ d i, (hexL s d i).length = 2 * d
  | 0, i => rfl
  | d + 1, i => by simp only [hexL, List.length_cons, hexL_len s d (i + 1)]; omega
theorem hexB_size (s : ByteArray) : (hexB s).size = 2 * s.size := by unfold hexB; rw [strOfNums_size, hexL_len]

theorem byte_fin {p : Int → Prop} (h : ∀ c : Fin 256, p (c.val : Int)) {c : Int} (h0 : 0 ≤ c) (h1 : c < 256) : p c := by
  obtain ⟨n, rfl⟩ := Int.eq_ofNat_of_zero_le h0
  exact h ⟨n, by omega⟩
theorem and15 {c : Int} (h0 : 0 ≤ c) (h1 : c < 256) : IntKind.wrap .u8 ((BitVec.ofInt 8 c &&& BitVec.ofInt 8 15).toNat : Int) = c % 16 :=
  byte_fin (p := fun c => IntKind.wrap .u8 ((BitVec.ofInt 8 c &&& BitVec.ofInt 8 15).toNat : Int) = c % 16) (by decide +kernel) h0 h1
theorem fdiv16 {c : Int} (h0 : 0 ≤ c) (h1 : c < 256) : Int.fdiv c (2 ^ 4) = c / 16 :=
  byte_fin (p := fun c => Int.fdiv c (2 ^ 4) = c / 16) (by decide +kernel) h0 h1
theorem tdiv16 {c : Int} (h0 : 0 ≤ c) (h1 : c < 256) : w64 (Int.tdiv (w64 c) 16) = c / 16 :=
  byte_fin (p := fun c => w64 (Int.tdiv (w64 c) 16) = c / 16) (by decide +kernel) h0 h1
theorem tmod16 {c : Int} (h0 : 0 ≤ c) (h1 : c < 256) : Int.tmod (w64 c) 16 = c % 16 :=
  byte_fin (p := fun c => Int.tmod (w64 c) 16 = c % 16) (by decide +kernel) h0 h1
theorem hexD_size : ((hexD.size : Nat) : Int) = 16 := rfl
theorem hexD_one {k : Nat} (h : k < 16) : hexD.extract k (k + 1) = bytesOf [byteAt hexD (k : Int)] := by
  have : ∀ k : Fin 16, (hexD.extract k.val (k.val + 1)).data = (bytesOf [byteAt hexD (k.val : Int)]).data := by decide +kernel
  exact ByteArray.ext (this ⟨k, h⟩)

theorem sha_Hex_l (s : ByteArray) (hs : s.size ≤ 1000000) : ∀ (d i : Nat) (x : List Int), i + d = s.size → x.length ≤ 2 * i → V.sha_Hex.l11010 s (i : Int) x = some (bytesOf (x ++ hexL s d i))
  | 0, i, x, h, hx => by
    apply V.sha_Hex.l11010.of; unfold F.sha_Hex.l11010.B
    rw [if_out (by omega)]
    simp [hexL]
  | d + 1, i, x, h, hx => by
    obtain ⟨b0, b1⟩ := bt_range s (i : Int)
    apply V.sha_Hex.l11010.of; unfold F.sha_Hex.l11010.B
    rw [if_in (by omega), guard_in (by omega), fdiv16 b0 b1, and15 b0 b1, hexD_size]
    rw [guard_of (by simp only [Bool.and_eq_true, decide_eq_true_eq]; omega), guard_in (by omega), guard_of (by simp only [Bool.and_eq_true, decide_eq_true_eq]; omega)]
    rw [guard_dec (by simp only [List.length_cons, List.length_nil, nmax]; omega), w64_up (n := s.size) (by omega) (by omega)]
    rw [sha_Hex_l s hs d (i + 1) _ (by omega) (by simp only [List.length_append, List.length_cons, List.length_nil]; omega)]
    simp only [hexL, List.append_assoc, List.cons_append, List.nil_append]
theorem sha_Hex_ok (s : ByteArray) (hs : s.size ≤ 1000000) : V.sha_Hex s = some (hexB s) := by
  apply V.sha_Hex.of; unfold F.sha_Hex.B
  rw [w64_id (by omega) (by omega), guard_of (by simp only [Bool.and_eq_true, decide_eq_true_eq]; omega)]
  have := sha_Hex_l s hs s.size 0 [] (by omega) (by simp)
  exact this

theorem bytes_two (a b : Int) : bytesOf [a] ++ bytesOf [b] = bytesOf [a, b] := by rw [← strOfNums_append]; rfl
theorem refHex_l (s : ByteArray) (hs : s.size ≤ 1000000) : ∀ (d i : Nat) (x : ByteArray), i + d = s.size → x.size ≤ 2 * i → V.pleachref03_Hex.l111010 s x (i : Int) = some (x ++ bytesOf (hexL s d i))
  | 0, i, x, h, hx => by
    apply V.pleachref03_Hex.l111010.of; unfold F.pleachref03_Hex.l111010.B
    rw [if_out (by omega)]
    simp only [hexL]
    exact congrArg some (app_nil x).symm
  | d + 1, i, x, h, hx => by
    obtain ⟨b0, b1⟩ := bt_range s (i : Int)
    obtain ⟨k, hk⟩ := Int.eq_ofNat_of_zero_le (show 0 ≤ byteAt s (i : Int) / 16 by omega)
    obtain ⟨m, hm⟩ := Int.eq_ofNat_of_zero_le (show 0 ≤ byteAt s (i : Int) % 16 by omega)
    apply V.pleachref03_Hex.l111010.of; unfold F.pleachref03_Hex.l111010.B
    rw [if_in (by omega), guard_in (by omega), guard_in (by omega), tdiv16 b0 b1, tmod16 b0 b1, hexD_size, hk, hm]
    have k16 : k < 16 := by omega
    have m16 : m < 16 := by omega
    rw [w64_up (n := 16) k16 (by omega), w64_up (n := 16) m16 (by omega)]
    simp only [Int.toNat_natCast]
    rw [guard_of (by simp only [Bool.and_eq_true, decide_eq_true_eq]; omega)]
    rw [guard_dec (by rw [hexD_one k16, strOfNums_size]; simp only [List.length_cons, List.length_nil, i64max]; omega)]
    rw [guard_of (by simp only [Bool.and_eq_true, decide_eq_true_eq]; omega)]
    rw [guard_dec (by rw [hexD_one k16, hexD_one m16, ByteArray.size_append, strOfNums_size, strOfNums_size]; simp only [List.length_cons, List.length_nil, i64max]; omega)]
    rw [hexD_one k16, hexD_one m16]
    rw [w64_up (n := s.size) (by omega) (by omega)]
    rw [refHex_l s hs d (i + 1) _ (by omega) (by rw [ByteArray.size_append, ByteArray.size_append, strOfNums_size, strOfNums_size]; simp only [List.length_cons, List.length_nil]; omega)]
    simp only [hexL, hk, hm]
    rw [show (byteAt hexD (k : Int) :: byteAt hexD (m : Int) :: hexL s d (i + 1)) = [byteAt hexD (k : Int), byteAt hexD (m : Int)] ++ hexL s d (i + 1) from rfl, strOfNums_append, ← bytes_two]
    simp only [ByteArray.append_assoc]
theorem refHex_ok (s : ByteArray) (hs : s.size ≤ 1000000) : V.pleachref03_Hex s = some (hexB s) := by
  apply V.pleachref03_Hex.of; unfold F.pleachref03_Hex.B
  have := refHex_l s hs s.size 0 ⟨#[]⟩ (by omega) (by simp [ByteArray.size])
  rw [nil_app] at this
  exact this

/-! ### Decimal digits -/
def dB (n : Nat) : ByteArray := ⟨(Lib.decDigits n).toArray⟩
def tensB (n : Nat) : ByteArray := if n = 0 then ⟨#[]⟩ else dB n
def oneB (n : Nat) : ByteArray := ⟨#[UInt8.ofNat (48 + n)]⟩
theorem tail_ok {n : Nat} (h : n < 10) : V.pleachref06_tail (n : Int) = some (oneB n) := by
  apply V.pleachref06_tail.of; unfold F.pleachref06_tail.B
  have : ∀ k : Fin 10, (bytesOf [IntKind.wrap .u8 (w64 (48 + (k.val : Int)))]).data = (oneB k.val).data := by decide +kernel
  exact congrArg some (ByteArray.ext (this ⟨n, h⟩))
theorem data_app (a b : List UInt8) : (⟨a.toArray⟩ : ByteArray) ++ ⟨b.toArray⟩ = ⟨(a ++ b).toArray⟩ := by apply ByteArray.ext; simp
theorem tens_one (n : Nat) : tensB (n / 10) ++ oneB (n % 10) = dB n := by
  unfold tensB dB oneB
  by_cases h : n < 10
  · rw [if_pos (by omega), Lib.decDigits_one h, Nat.mod_eq_of_lt h]
    exact nil_app _
  · rw [if_neg (by omega)]
    conv => rhs; rw [Lib.decDigits, dif_neg h]
    exact data_app _ _
theorem oneB_size (n : Nat) : (oneB n).size = 1 := rfl
theorem div10 (n : Nat) : Int.tdiv (n : Int) 10 = ((n / 10 : Nat) : Int) := by rw [Int.tdiv_eq_ediv_of_nonneg (by omega)]; omega
theorem mod10 (n : Nat) : Int.tmod (n : Int) 10 = ((n % 10 : Nat) : Int) := by rw [Int.tmod_eq_emod_of_nonneg (by omega)]; omega
theorem tens_l (a : Int) : ∀ (k n : Nat) (out : ByteArray), n < 10 ^ k → n < 18446744073709551616 → out.size + k ≤ 100 → V.pleachref06_tens.l1100 a (n : Int) out = some (tensB n ++ out)
  | k, 0, out, h, h64, hk => by
    apply V.pleachref06_tens.l1100.of; unfold F.pleachref06_tens.l1100.B
    rw [if_no (by omega)]
    exact congrArg some (nil_app out).symm
  | 0, n + 1, out, h, h64, hk => by simp at h
  | k + 1, n + 1, out, h, h64, hk => by
    have h' : (n + 1) / 10 < 10 ^ k := by rw [Nat.pow_succ] at h; omega
    apply V.pleachref06_tens.l1100.of; unfold F.pleachref06_tens.l1100.B
    rw [if_yes (by omega), mod10, w64_id (by omega) (by omega), tail_ok (by omega), Option.bind_some, guard_dec (by rw [oneB_size]; simp only [i64max]; omega), div10, u64_id (by omega) (by omega)]
    rw [tens_l a k ((n + 1) / 10) _ h' (by omega) (by rw [ByteArray.size_append, oneB_size]; omega), ← ByteArray.append_assoc, tens_one]
    rfl
theorem dB_size : ∀ (k n : Nat), n < 10 ^ (k + 1) → (dB n).size ≤ k + 1
  | 0, n, h => by
    unfold dB; rw [Lib.decDigits_one (by simpa using h)]; simp [ByteArray.size]
  | k + 1, n, h => by
    rw [← tens_one n, ByteArray.size_append, oneB_size]
    unfold tensB
    split
    · simp [ByteArray.size]
    · have := dB_size k (n / 10) (by rw [Nat.pow_succ] at h; omega)
      omega
theorem tensB_size {n : Nat} (h : n < 18446744073709551616) : (tensB n).size ≤ 20 := by
  unfold tensB
  split
  · simp [ByteArray.size]
  · have := dB_size 19 n (by omega)
    omega
theorem tens_ok {n : Nat} (h : n < 18446744073709551616) : V.pleachref06_tens (n : Int) = some (tensB n) := by
  apply V.pleachref06_tens.of; unfold F.pleachref06_tens.B
  rw [tens_l _ 20 n _ (by omega) h (by simp [ByteArray.size]), app_nil]

theorem itoaS_neg {n : Int} (h : n < 0) : itoaS n = (⟨#[45]⟩ : ByteArray) ++ dB n.natAbs := by
  unfold itoaS Lib.itoa dB
  rw [if_pos h]
  exact (data_app [45] _).symm
theorem itoaS_pos {n : Nat} : itoaS (n : Int) = dB n := by
  unfold itoaS Lib.itoa dB
  rw [if_neg (by omega)]; rfl
theorem Digits_ok {a : Int} (h0 : -9223372036854775808 ≤ a) (h1 : a ≤ 9223372036854775807) : V.pleachref06_Digits a = some (itoaS a) := by
  apply V.pleachref06_Digits.of; unfold F.pleachref06_Digits.B
  by_cases hn : a < 0
  · obtain ⟨m, hm⟩ := Int.eq_ofNat_of_zero_le (show 0 ≤ -(a + 1) by omega)
    have e1 : IntKind.wrap .u64 (w64 (0 - (w64 (a + 1)))) = (m : Int) := by
      rw [w64_id (x := a + 1) (by omega) (by omega), w64_id (by omega) (by omega), u64_id (by omega) (by omega)]; omega
    rw [if_yes hn, e1, mod10, div10, w64_id (x := ((m % 10 : Nat) : Int)) (by omega) (by omega), w64_id (by omega) (by omega), u64_id (x := ((m / 10 : Nat) : Int)) (by omega) (by omega), u64_id (by omega) (by omega)]
    rw [itoaS_neg hn, show a.natAbs = m + 1 by omega, ← tens_one (m + 1)]
    by_cases h9 : m % 10 = 9
    · have hc : ((((m % 10 : Nat) : Int) + 1) == 10) = true := by rw [h9]; rfl
      rw [hc, cond_true, show ((m / 10 : Nat) : Int) + 1 = (((m + 1) / 10 : Nat) : Int) by omega, tens_ok (by omega), Option.bind_some]
      have hz := tensB_size (n := (m + 1) / 10) (by omega)
      rw [guard_dec (by simp only [i64max]; show 1 + _ ≤ _; omega), show (0 : Int) = ((0 : Nat) : Int) from rfl, tail_ok (by omega), Option.bind_some, guard_dec (by rw [ByteArray.size_append, oneB_size]; simp only [i64max]; show 1 + _ + _ ≤ _; omega)]
      rw [show (m + 1) % 10 = 0 by omega, ByteArray.append_assoc]
    · have hc : ((((m % 10 : Nat) : Int) + 1) == 10) = false := by
        rw [beq_eq_false_iff_ne]; omega
      rw [hc, cond_false, show ((m / 10 : Nat) : Int) = (((m + 1) / 10 : Nat) : Int) by omega, tens_ok (by omega), Option.bind_some]
      have hz := tensB_size (n := (m + 1) / 10) (by omega)
      rw [guard_dec (by simp only [i64max]; show 1 + _ ≤ _; omega), show ((m % 10 : Nat) : Int) + 1 = (((m + 1) % 10 : Nat) : Int) by omega, tail_ok (by omega), Option.bind_some, guard_dec (by rw [ByteArray.size_append, oneB_size]; simp only [i64max]; show 1 + _ + _ ≤ _; omega)]
      rw [ByteArray.append_assoc]
  · obtain ⟨n, rfl⟩ := Int.eq_ofNat_of_zero_le (show 0 ≤ a by omega)
    rw [if_no hn, u64_id (x := (n : Int)) (by omega) (by omega), div10, u64_id (by omega) (by omega), mod10, tens_ok (by omega), Option.bind_some, tail_ok (by omega), Option.bind_some]
    have hz := tensB_size (n := n / 10) (by omega)
    rw [guard_dec (by rw [oneB_size]; simp only [i64max]; omega), tens_one, itoaS_pos]
/-! ### Plain texts -/
def badI (c : Int) : Bool := !(((((decide (c ≥ 97) && decide (c ≤ 122)) || (decide (c ≥ 65) && decide (c ≤ 90))) || (decide (c ≥ 48) && decide (c ≤ 57))) || c == 45) || c == 46 || c == 95)
def okF (s : ByteArray) : Nat → Nat → Bool
  | 0, _ => true
  | d + 1, i => bif badI (byteAt s (i : Int)) then false else okF s d (i + 1)
def plainB (s : ByteArray) : Bool := okF s s.size 0
theorem refPlain_l (s : ByteArray) (hs : s.size ≤ 1000000) : ∀ (d i : Nat), i + d = s.size → V.pleachref06_plain.l1010 s (i : Int) = some (okF s d i)
  | 0, i, h => by
    apply V.pleachref06_plain.l1010.of; unfold F.pleachref06_plain.l1010.B
    rw [if_out (by omega)]; rfl
  | d + 1, i, h => by
    apply V.pleachref06_plain.l1010.of; unfold F.pleachref06_plain.l1010.B
    rw [if_in (by omega), guard_in (by omega), w64_up (n := s.size) (by omega) (by omega), refPlain_l s hs d (i + 1) (by omega)]
    simp only [okF, badI, bne]
    generalize byteAt s (i : Int) = c
    generalize okF s d (i + 1) = r
    generalize decide (c ≥ 97) = p1
    generalize decide (c ≤ 122) = p2
    generalize decide (c ≥ 65) = p3
    generalize decide (c ≤ 90) = p4
    generalize decide (c ≥ 48) = p5
    generalize decide (c ≤ 57) = p6
    generalize (c == 45) = p7
    generalize (c == 46) = p8
    generalize (c == 95) = p9
    cases p1 <;> cases p2 <;> cases p3 <;> cases p4 <;> cases p5 <;> cases p6 <;> cases p7 <;> cases p8 <;> cases p9 <;> rfl
theorem refPlain_ok (s : ByteArray) (hs : s.size ≤ 1000000) : V.pleachref06_plain s = some (plainB s) := by
  apply V.pleachref06_plain.of; unfold F.pleachref06_plain.B
  exact refPlain_l s hs s.size 0 (by omega)

theorem decode_low {s : ByteArray} {i : Nat} (h : (s.get! i).toNat < 128) : Utf8.decode s i = ((s.get! i).toNat, 1) := by
  unfold Utf8.decode
  simp only [Nat.add_zero]
  rw [if_pos h]
theorem decode_high {s : ByteArray} {i : Nat} (h : 128 ≤ (s.get! i).toNat) : 128 ≤ (Utf8.decode s i).1 := by
  unfold Utf8.decode
  simp only [Nat.add_zero, Utf8.runeError]
  rw [if_neg (by omega)]
  repeat' split
  all_goals first | omega | (rename_i h1; simp only [Bool.and_eq_true, decide_eq_true_eq, ge_iff_le] at h1; omega) | (simp only [ge_iff_le] at *; omega)
theorem bt_get {s : ByteArray} {i : Nat} (h : i < s.size) : byteAt s (i : Int) = ((s.get! i).toNat : Int) := by
  rw [bt_data s i h]
  congr 1
  cases s with
  | mk a => 
    have h' : i < a.size := h
    simp [ByteArray.get!, getElem!_pos, h']
theorem badR_of (n : Nat) : badR n = badI (n : Int) := by
  unfold badR badI
  rw [Bool.eq_iff_iff]
  simp
  omega
theorem badR_high {n : Nat} (h : 128 ≤ n) : badR n = true := by
  unfold badR; simp; omega
theorem idx_plain (s : ByteArray) : ∀ (f d i : Nat), i + d = s.size → d ≤ f → decide (0 ≤ Lib.idxFuncFrom badR true s f i) = !(okF s d i)
  | f, 0, i, h, hf => by
    rw [Lib.idxFuncFrom_end _ _ _ _ _ (by omega)]; rfl
  | 0, d + 1, i, h, hf => by omega
  | f + 1, d + 1, i, h, hf => by
    have hi : i < s.size := by omega
    unfold Lib.idxFuncFrom
    rw [if_pos hi]
    simp only [okF]
    rw [bt_get hi, ← badR_of]
    by_cases hl : (s.get! i).toNat < 128
    · rw [decode_low hl]
      cases hb : badR (s.get! i).toNat
      · rw [if_neg (by simp [hb])]
        exact idx_plain s f d (i + 1) (by omega) (by omega)
      · simp
    · have h1 : badR (s.get! i).toNat = true := badR_high (by omega)
      have h2 : badR (Utf8.decode s i).1 = true := badR_high (decode_high (by omega))
      rw [h1, h2]; simp
theorem hasR_plain (s : ByteArray) : hasR badR s = !(plainB s) := by
  unfold hasR Lib.idxFunc plainB
  exact idx_plain s s.size s.size 0 (by omega) (Nat.le_refl _)
theorem plain_ok (s : ByteArray) : V.value_plain s = some (plainB s) := by
  apply V.value_plain.of; unfold F.value_plain.B
  rw [V.strings_ContainsFunc_by_value_plain_1.of s (r := hasR badR s) rfl, Option.bind_some, hasR_plain, Bool.not_not]

/-! ### A value's word -/
def showB (v : TValue) : ByteArray :=
  if valueB v then (if v.1 = 1 then (if v.2.1 = 1 then ⟨#[116, 114, 117, 101]⟩ else ⟨#[102, 97, 108, 115, 101]⟩) else if v.1 = 2 then itoaS v.2.1 else if plainB v.2.2 then (⟨#[39]⟩ : ByteArray) ++ v.2.2 else (⟨#[35]⟩ : ByteArray) ++ hexB v.2.2) else ⟨#[]⟩
theorem value_kind {v : TValue} (h : valueB v = true) : (v.1 = 1 ∨ v.1 = 2 ∨ v.1 = 3) ∧ v.2.2.size ≤ 64 := by
  unfold valueB at h
  simp only [Bool.or_eq_true, Bool.and_eq_true, beq_iff_eq, decide_eq_true_eq] at h
  omega
theorem Itoa_ok {a : Int} (h0 : -9223372036854775808 ≤ a) (h1 : a ≤ 9223372036854775807) : V.strconv_Itoa a = some (itoaS a) := by
  apply V.strconv_Itoa.of
  show itoaB a = _
  unfold itoaB
  exact guard_of (by simp [h0, h1])
theorem value_Show_ok (v : TValue) (hb : -9223372036854775808 ≤ v.2.1 ∧ v.2.1 ≤ 9223372036854775807) : V.value_Show v = some (showB v) := by
  obtain ⟨k, n, t⟩ := v
  apply V.value_Show.of; unfold F.value_Show.B
  rw [value_Check_ok, Option.bind_some]
  unfold showB
  cases hv : valueB (k, n, t) with
  | false => simp
  | true =>
    obtain ⟨hk, ht⟩ := value_kind hv
    simp only at hk ht hb
    simp only [if_true]
    rw [show ((0 : Int) != 0) = false from rfl, cond_false, Itoa_ok hb.1 hb.2, plain_ok t, sha_Hex_ok t (by omega)]
    simp only [Option.bind_some]
    rw [guard_dec (p := (⟨#[39]⟩ : ByteArray).size + t.size ≤ i64max) (by show 1 + _ ≤ _; simp only [i64max]; omega), guard_dec (p := (⟨#[35]⟩ : ByteArray).size + (hexB t).size ≤ i64max) (by rw [hexB_size]; show 1 + _ ≤ _; simp only [i64max]; omega)]
    rcases hk with rfl | rfl | rfl
    · by_cases h1 : n = 1
      · subst h1; simp
      · rw [show (n == 1) = false from beq_eq_false_iff_ne.2 h1, if_neg (show ¬ ((1, n, t) : TValue).2.1 = 1 from h1)]; rfl
    · simp
    · cases plainB t <;> simp
theorem refShow_ok (v : TValue) (hb : -9223372036854775808 ≤ v.2.1 ∧ v.2.1 ≤ 9223372036854775807) : V.pleachref06_Show v = some (showB v) := by
  obtain ⟨k, n, t⟩ := v
  apply V.pleachref06_Show.of; unfold F.pleachref06_Show.B
  rw [refVIs_ok, Option.bind_some]
  unfold showB
  cases hv : valueB (k, n, t) with
  | false => simp
  | true =>
    obtain ⟨hk, ht⟩ := value_kind hv
    simp only at hk ht hb
    simp only [if_true]
    rw [Digits_ok hb.1 hb.2, refPlain_ok t (by omega), refHex_ok t (by omega)]
    simp only [Option.bind_some]
    rw [guard_dec (p := (⟨#[39]⟩ : ByteArray).size + t.size ≤ i64max) (by show 1 + _ ≤ _; simp only [i64max]; omega), guard_dec (p := (⟨#[35]⟩ : ByteArray).size + (hexB t).size ≤ i64max) (by rw [hexB_size]; show 1 + _ ≤ _; simp only [i64max]; omega)]
    rcases hk with rfl | rfl | rfl
    · by_cases h1 : n = 1
      · subst h1; simp
      · rw [show (n == 1) = false from beq_eq_false_iff_ne.2 h1, if_neg (show ¬ ((1, n, t) : TValue).2.1 = 1 from h1)]; rfl
    · simp
    · cases plainB t <;> simp
theorem awake06_ok : V.pleachlaw06_awake = some true := by
  apply V.pleachlaw06_awake.of; unfold F.pleachlaw06_awake.B
  rw [value_Put_ok (2, -1, ⟨#[]⟩) (by decide), Option.bind_some, value_Show_ok (3, 0, ⟨#[97, 32, 98]⟩) (by decide), Option.bind_some]
  decide +kernel
theorem int_wf {n : Int} (h : (Lit.int .i64 n).wf = true) : -9223372036854775808 ≤ n ∧ n ≤ 9223372036854775807 := by
  have e1 : IntKind.i64.min = -9223372036854775808 := rfl
  have e2 : IntKind.i64.max = 9223372036854775807 := rfl
  simpa only [Lit.wf, e1, e2, Bool.and_eq_true, decide_eq_true_eq] using h
end Go.Proofs.YthnhkaaodghpgaaDoor.AE
end
section
set_option linter.unusedVariables false
set_option linter.unusedSimpArgs false
namespace Go.Proofs.YthnhkaaodghpgaaDoor.AE
open Go
theorem ValuePuts_pure (v : TValue) (hb : -9223372036854775808 ≤ v.2.1 ∧ v.2.1 ≤ 9223372036854775807) : V.pleachlaw06_ValuePuts v = some true := by
  apply V.pleachlaw06_ValuePuts.of; unfold F.pleachlaw06_ValuePuts.B
  obtain ⟨k, n, t⟩ := v
  dsimp only
  rw [awake06_ok]
  by_cases h : (t.size : Int) > 1000
  · rw [if_yes h]; rfl
  · rw [if_no h, value_Put_ok _ hb, Option.bind_some, refVIs_ok, Option.bind_some, refVPut_ok _ hb, value_Check_ok, value_Show_ok _ hb, refShow_ok _ hb]
    simp only [Option.bind_some, strEq_self]
    cases valueB (k, n, t) <;> rfl
end Go.Proofs.YthnhkaaodghpgaaDoor.AE
end
section
namespace Go.Proofs.YthnhkaaodghpgaaDoor.AE
open Go Go.ChangeShapes Go.WideShapes Go.ChangeAt Go.RowKit Go.Lib Go.Sort
variable {W₀ : World}
theorem weights_each {H : Type} {P : Program} {p : Nat → Bool} {ts : List TypeId} {ds : List (DataW H)} (h : (DataW.weightsEach P ts ds).all p = true) {j : Nat} {t : TypeId} {d : DataW H} (ht : ts[j]? = some t) (hd : ds[j]? = some d) : ∀ n ∈ d.weights P t, p n = true :=
  fun n hn => List.all_eq_true.1 h _ (DataW.weights_mem_each ht hd n hn)
theorem own : ownKnob Tryd.prog.godebug = none := by kernel_rfl
theorem laidOut : laidOutB Tryd.prog = true := by kernel_rfl
theorem mix : Tryd.prog.follows .mixedOrders = true := by kernel_rfl
theorem numGoB : (Tryd.prog.funcs.all fun fn => !(fn.name == "runtime.NumGoroutine")) = true := by kernel_rfl
theorem num (f : FuncId) (fn : Func) (h : Tryd.prog.funcs[f]? = some fn) : (fn.name == "runtime.NumGoroutine") = false := by
  have := Array.all_eq_true_iff_forall_mem.1 numGoB fn (Array.mem_of_getElem? h)
  simpa using this
def layCont_ren : Go.Shelf.Ren := ⟨fun i => match i with | 15 => 76 | 17 => 56 | 20 => 88 | _ => 0, fun i => match i with | 0 => 0 | 3 => 3 | 4 => 4 | 9 => 9 | 21 => 21 | 23 => 75 | _ => 0, fun x => x⟩
set_option maxRecDepth 100000 in
theorem layCont : Go.Proofs.LaysGw.n17 Tryd.prog layCont_ren where
  mixed := mix
  f15 := Tryd.func76.trans (congrArg some (by kernel_rfl))
  f17 := Tryd.func56.trans (congrArg some (by kernel_rfl))
  f20 := Tryd.func88.trans (congrArg some (by kernel_rfl))
  t0 := by kernel_rfl
  a0 := by intro w; kernel_rfl
  z0 := by intro w; kernel_rfl
  v0 := by intro w; kernel_rfl
  i0 := by kernel_rfl
  t3 := by kernel_rfl
  a3 := by intro w; kernel_rfl
  z3 := by intro w; kernel_rfl
  v3 := by intro w; kernel_rfl
  i3 := by kernel_rfl
  t4 := by kernel_rfl
  a4 := by intro w; kernel_rfl
  z4 := by intro w; kernel_rfl
  v4 := by intro w; kernel_rfl
  i4 := by kernel_rfl
  t9 := by kernel_rfl
  a9 := by intro w; kernel_rfl
  z9 := by intro w; kernel_rfl
  v9 := by intro w; kernel_rfl
  i9 := by kernel_rfl
  t21 := by kernel_rfl
  a21 := by intro w; kernel_rfl
  z21 := by intro w; kernel_rfl
  v21 := by intro w; kernel_rfl
  i21 := by kernel_rfl
  t23 := by kernel_rfl
  a23 := by intro w; kernel_rfl
  z23 := by intro w; kernel_rfl
  v23 := by intro w; kernel_rfl
  i23 := by kernel_rfl
theorem pred57 (w : World) : PredAt Tryd.prog 57 #[] encR badR w := by
  intro W x hb
  unfold FnGives
  show Calls Tryd.prog 57 #[.int .i32 (x : Int)] W _
  go_enter Tryd.func57, Tryd.ntmps57
  go_wp2
  all_goals
    go_ret
    refine ⟨congrArg (fun b => Ending.returned (Value.bool b)) ?_, 0, rfl⟩
    simp only [badR]
    rw [Bool.eq_iff_iff]
    simp
    try omega
def layItoa_ren : Go.Shelf.Ren := ⟨fun i => match i with | 129 => 95 | 171 => 31 | 243 => 55 | 246 => 75 | 283 => 84 | 284 => 85 | 285 => 86 | 286 => 87 | 317 => 94 | 318 => 96 | 319 => 97 | 320 => 98 | 337 => 102 | 338 => 103 | _ => 0, fun i => match i with | 0 => 0 | 2 => 2 | 3 => 3 | 4 => 4 | 5 => 5 | 9 => 9 | 20 => 20 | 37 => 51 | 46 => 76 | 51 => 109 | 53 => 55 | 171 => 96 | 173 => 98 | 212 => 108 | 213 => 110 | 232 => 122 | 233 => 123 | _ => 0, fun i => match i with | 17 => 1 | 18 => 4 | 19 => 5 | _ => 0⟩
set_option maxRecDepth 100000 in
theorem layItoa : Go.Proofs.LaysM.n171 Tryd.prog layItoa_ren where
  mixed := mix
  f129 := Tryd.func95.trans (congrArg some (by kernel_rfl))
  f171 := Tryd.func31.trans (congrArg some (by kernel_rfl))
  f243 := Tryd.func55.trans (congrArg some (by kernel_rfl))
  f246 := Tryd.func75.trans (congrArg some (by kernel_rfl))
  f283 := Tryd.func84.trans (congrArg some (by kernel_rfl))
  f284 := Tryd.func85.trans (congrArg some (by kernel_rfl))
  f285 := Tryd.func86.trans (congrArg some (by kernel_rfl))
  f286 := Tryd.func87.trans (congrArg some (by kernel_rfl))
  f317 := Tryd.func94.trans (congrArg some (by kernel_rfl))
  f318 := Tryd.func96.trans (congrArg some (by kernel_rfl))
  f319 := Tryd.func97.trans (congrArg some (by kernel_rfl))
  f320 := Tryd.func98.trans (congrArg some (by kernel_rfl))
  f337 := Tryd.func102.trans (congrArg some (by kernel_rfl))
  f338 := Tryd.func103.trans (congrArg some (by kernel_rfl))
  t0 := by kernel_rfl
  a0 := by intro w; kernel_rfl
  z0 := by intro w; kernel_rfl
  v0 := by intro w; kernel_rfl
  t2 := by kernel_rfl
  a2 := by intro w; kernel_rfl
  z2 := by intro w; kernel_rfl
  v2 := by intro w; kernel_rfl
  t3 := by kernel_rfl
  a3 := by intro w; kernel_rfl
  z3 := by intro w; kernel_rfl
  v3 := by intro w; kernel_rfl
  t4 := by kernel_rfl
  a4 := by intro w; kernel_rfl
  z4 := by intro w; kernel_rfl
  v4 := by intro w; kernel_rfl
  t5 := by kernel_rfl
  a5 := by intro w; kernel_rfl
  z5 := by intro w; kernel_rfl
  v5 := by intro w; kernel_rfl
  t9 := by kernel_rfl
  a9 := by intro w; kernel_rfl
  z9 := by intro w; kernel_rfl
  v9 := by intro w; kernel_rfl
  t20 := by kernel_rfl
  a20 := by intro w; kernel_rfl
  z20 := by intro w; kernel_rfl
  v20 := by intro w; kernel_rfl
  t37 := by kernel_rfl
  a37 := by intro w; kernel_rfl
  z37 := by intro w; kernel_rfl
  v37 := by intro w; kernel_rfl
  t46 := by kernel_rfl
  a46 := by intro w; kernel_rfl
  z46 := by intro w; kernel_rfl
  v46 := by intro w; kernel_rfl
  t51 := by kernel_rfl
  a51 := by intro w; kernel_rfl
  z51 := by intro w; kernel_rfl
  v51 := by intro w; kernel_rfl
  t53 := by kernel_rfl
  a53 := by intro w; kernel_rfl
  z53 := by intro w; kernel_rfl
  v53 := by intro w; kernel_rfl
  t171 := by kernel_rfl
  a171 := by intro w; kernel_rfl
  z171 := by intro w; kernel_rfl
  v171 := by intro w; kernel_rfl
  t173 := by kernel_rfl
  a173 := by intro w; kernel_rfl
  z173 := by intro w; kernel_rfl
  v173 := by intro w; kernel_rfl
  t212 := by kernel_rfl
  a212 := by intro w; kernel_rfl
  z212 := by intro w; kernel_rfl
  v212 := by intro w; kernel_rfl
  t213 := by kernel_rfl
  a213 := by intro w; kernel_rfl
  z213 := by intro w; kernel_rfl
  t232 := by kernel_rfl
  a232 := by intro w; kernel_rfl
  z232 := by intro w; kernel_rfl
  v232 := by intro w; kernel_rfl
  t233 := by kernel_rfl
  a233 := by intro w; kernel_rfl
  z233 := by intro w; kernel_rfl
  v233 := by intro w; kernel_rfl
  g17 := by kernel_rfl
  g18 := by kernel_rfl
  g19 := by kernel_rfl
  i0 := by kernel_rfl
  i2 := by kernel_rfl
  i3 := by kernel_rfl
  i4 := by kernel_rfl
  i5 := by kernel_rfl
  i9 := by kernel_rfl
  i20 := by kernel_rfl
  i37 := by kernel_rfl
  i46 := by kernel_rfl
  i51 := by kernel_rfl
  i53 := by kernel_rfl
  i171 := by kernel_rfl
  i173 := by kernel_rfl
  i212 := by kernel_rfl
  i232 := by kernel_rfl
  i233 := by kernel_rfl
  m17 := by kernel_rfl
  m18 := by kernel_rfl
  m19 := by kernel_rfl
theorem extok (htab : Lib.TabIs Tryd.prog W₀ "internal/strconv.uint64pow10" .u64 Lib.pow10Tab) : ExtOk W₀ Tryd.prog sg := .of (show extAll W₀ Tryd.prog sgT from
  ⟨.nothing rfl rfl,
  ⟨.nothing rfl rfl,
  ⟨.nothing rfl rfl,
  ⟨.nothing rfl rfl,
  ⟨.nothing rfl rfl,
  ⟨.nothing rfl rfl,
  ⟨.nothing rfl rfl,
  ⟨.nothing rfl rfl,
  ⟨.nothing rfl rfl,
  ⟨.nothing rfl rfl,
  ⟨.nothing rfl rfl,
  ⟨.nothing rfl rfl,
  ⟨.nothing rfl rfl,
  ⟨.nothing rfl rfl,
  ⟨.nothing rfl rfl,
  ⟨.nothing rfl rfl,
  ⟨.nothing rfl rfl,
  ⟨.nothing rfl rfl,
  ⟨.nothing rfl rfl,
  ⟨.nothing rfl rfl,
  ⟨.nothing rfl rfl,
  ⟨.nothing rfl rfl,
  ⟨.nothing rfl rfl,
  ⟨.nothing rfl rfl,
  ⟨(itoa_ext layItoa rfl htab),
  ⟨.nothing rfl rfl,
  ⟨.nothing rfl rfl,
  ⟨.nothing rfl rfl,
  ⟨.nothing rfl rfl,
  ⟨.nothing rfl rfl,
  ⟨.nothing rfl rfl,
  ⟨.nothing rfl rfl,
  ⟨.nothing rfl rfl,
  ⟨.nothing rfl rfl,
  ⟨.nothing rfl rfl,
  ⟨.nothing rfl rfl,
  ⟨.nothing rfl rfl,
  ⟨.nothing rfl rfl,
  ⟨.nothing rfl rfl,
  ⟨.nothing rfl rfl,
  ⟨.nothing rfl rfl,
  ⟨.nothing rfl rfl,
  ⟨.nothing rfl rfl,
  ⟨.nothing rfl rfl,
  ⟨.nothing rfl rfl,
  ⟨(cont_ext layCont rfl (enters_of Tryd.func57 (by kernel_rfl) rfl) pred57),
  ⟨.nothing rfl rfl,
  ⟨.nothing rfl rfl,
  ⟨.nothing rfl rfl,
  ⟨.nothing rfl rfl,
  ⟨.nothing rfl rfl,
  ⟨.nothing rfl rfl,
  ⟨.nothing rfl rfl,
  ⟨.nothing rfl rfl,
  ⟨.nothing rfl rfl,
  ⟨.nothing rfl rfl,
  ⟨.nothing rfl rfl,
  ⟨.nothing rfl rfl,
  ⟨.nothing rfl rfl,
  ⟨.ofOp rfl rfl (opCompare_ok Tryd.func77 (by kernel_rfl) (by kernel_rfl) (by kernel_rfl) (by kernel_rfl)),
  ⟨.nothing rfl rfl,
  ⟨.nothing rfl rfl,
  trivial⟩⟩⟩⟩⟩⟩⟩⟩⟩⟩⟩⟩⟩⟩⟩⟩⟩⟩⟩⟩⟩⟩⟩⟩⟩⟩⟩⟩⟩⟩⟩⟩⟩⟩⟩⟩⟩⟩⟩⟩⟩⟩⟩⟩⟩⟩⟩⟩⟩⟩⟩⟩⟩⟩⟩⟩⟩⟩⟩⟩⟩⟩)
end Go.Proofs.YthnhkaaodghpgaaDoor.AE
end
section
namespace Go.Proofs.YthnhkaaodghpgaaDoor.AE.valuePuts
open Go Go.ChangeShapes Go.WideShapes Go.ChangeAt Go.RowKit
open Go.ChangeMaps (open_string shut_string)
set_option linter.unusedVariables false
def Pure : Prop := ∀ (x0 : den ((.prod (.int .i64) (.prod (.int .i64) .str)))), Gd ((.prod (.int .i64) (.prod (.int .i64) .str))) x0 → ∃ K, F.pleachlaw06_ValuePuts K x0 = some true
theorem door_met (os : Os) (args : Array Value) : laidMetH Tryd.prog Rows.valuePutsRow.laid ((World.doorLaid Tryd.prog 400 os).forCall (fun _ _ => 0) ⟨#[], args, []⟩).memory :=
  laidMetH_of_parts3 (fuel := 8) (laidMet_of_run' 8 (by kernel_rfl) (by kernel_rfl)) (by kernel_rfl) (by kernel_rfl)
theorem tab_is : (Rows.laid_internal_strconv_uint64pow10 : DataW Unit) = Lib.tabData .u64 Lib.pow10Tab := by kernel_rfl
theorem tab_of {W : World} (h : laidMetH Tryd.prog Rows.valuePutsRow.laid W) : Lib.TabIs Tryd.prog W "internal/strconv.uint64pow10" .u64 Lib.pow10Tab := by
  rw [MakeChecks.laidMetH_plain _ _ _ (by kernel_rfl)] at h
  obtain ⟨ps, ⟨_, _, _, _, _, _, _, _, _, _, ⟨_, _, _, _, _, _, _, _, _, _, ⟨g, t, cs, f, p, q, hg, ht, hv, hd, _, _⟩, _⟩, _⟩, _, _⟩ := h
  obtain rfl := Option.some.inj ((show Tryd.prog.globalNamed "internal/strconv.uint64pow10" = some 1 by kernel_rfl).symm.trans hg)
  obtain rfl := Option.some.inj ((show (Tryd.prog.globals[1]?).map (·.type) = some 108 by kernel_rfl).symm.trans ht)
  rw [tab_is] at hd
  unfold Lib.TabIs
  rw [hv, ← Lib.cells_of_tab Tryd.underlying108 Tryd.underlying55 (by kernel_rfl) (by kernel_rfl) hd]
set_option maxRecDepth 100000 in
theorem lifted (pure : Pure) (os : Os) (started : os.Started) (H : Type) (enc : TypeId × Value → H) :
    ReturnsInHanded {} Tryd.checked os 3 .any (fun w args => (Rows.valuePutsSpec.pre enc Tryd.prog Tryd.f3 Rows.valuePutsRow.domain false w args ∧ laidMetH Tryd.prog Rows.valuePutsRow.laid w) ∧ sizedMet enc Tryd.prog Tryd.f3 (OpenSpec.ofChange Rows.valuePutsSpec) false w args) (Rows.valuePutsSpec.post enc Tryd.prog Tryd.f3 false true false false) := by
  refine returnsInHanded_of_change_and (C := Tryd.checked) (X := (fun w _ => laidMetH Tryd.prog Rows.valuePutsRow.laid w)) (fun _ _ _ hh h => h.of_heap hh) own started (by kernel_rfl) Tryd.func3
    (ChangeSpec.witness_shaped (enc := enc) (C := Tryd.checked) (os := os) (X := (fun w _ => laidMetH Tryd.prog Rows.valuePutsRow.laid w)) false (World.doorLaid Tryd.prog 400 os) #[.agg #[.int .i64 0, .int .i64 0, .string ByteArray.empty]] 8 rfl (World.shaped_of_RefB (by kernel_rfl) (by kernel_rfl)) (by kernel_rfl) (by kernel_rfl) (by kernel_rfl) (door_met os _)) ?_
  intro W base args ds gs before hval0 hW hcnd hsz0 hL _
  have hsz : (DataW.weightsEach Tryd.prog (Tryd.f3.params.toList ++ Rows.valuePutsSpec.plain.varTypes Tryd.prog) (ds ++ gs)).all (· ≤ reachBytes) = true := hsz0
  have hval : ∀ (j : Nat) t v, Tryd.f3.params[j]? = some t → args[j]? = some v → Value.okWide Tryd.prog W .any base t v := hval0
  have hW' := hW
  obtain ⟨p, q, hA0, hV, rfl, hfz, hnd⟩ := hW
  have hA : DataW.TrodAll enc Tryd.prog W 0 (fun _ => true) true Tryd.f3.params.toList args.toList ds p := hA0
  rw [Tryd.params3] at hA hval hsz
  obtain ⟨v0, vs0, d0, ds0, p0, q0, hargs, rfl, rfl, h0, r0⟩ := trodAll_cons hA
  obtain ⟨rfl, rfl, rfl⟩ := trodAll_nil r0
  obtain rfl : args = #[v0] := by cases args; simp_all
  obtain ⟨rfl, rfl⟩ := trodVars_none hV
  have k0 := h0
  have lt0 : ∀ x ∈ p0, x.block < W.heap.size := by obtain ⟨m, hm⟩ := k0; exact DataW.trod_lt m _ _ _ hm
  obtain ⟨cs0, rfl, _⟩ := okWide_struct Tryd.underlying23 (hval 0 23 v0 rfl rfl)
  obtain ⟨fuel0, hf0⟩ := h0
  obtain ⟨x0, S0, G0⟩ := fitT_ok (O := OX (NoX (W₀ := W)) [] []) (fun b => own_none) 20 23 ((.prod (.int .i64) (.prod (.int .i64) .str))) (by kernel_rfl) fuel0 _ _ hf0 (fun m hm => by have hq := weights_each hsz (j := 0) (t := 23) rfl rfl m hm; exact of_decide_eq_true hq)
  obtain ⟨K, hk⟩ := pure x0 G0
  have ha : AV1sR (OX (NoX (W₀ := W)) [] []) W [] [.agg (inj ((.prod (.int .i64) (.prod (.int .i64) .str))) x0)] (#[.agg cs0] : Array Value).toList := .cons (arg_agg S0) ⟨rfl, by simp⟩
  refine (law_calls (good Tryd.prog sg (extok (tab_of hL)) mix num K) (f := 3) (t := (true : Bool)) (b := true) hk rfl (fun O w ρ vals σ v h hv => bool_of h hv) ha).mono fun e W' ⟨he, hd⟩ => ?_
  have bel : Below W.heap.size W W' := hd
  subst he
  exact ⟨_, rfl, _, _, _, [], _, [], hW', trodAll_mk1 (shut_bool Tryd.underlying4 _), (trodAll_cons_mk (Below.trod laidOut (by kernel_rfl) (of_decide_eq_true (by kernel_rfl)) k0 bel lt0) trodAll_mk0), rfl, bel.frame _, fun h => by cases h⟩
theorem over (pure : Pure) : Rows.valuePutsRow.holds Tryd.pinned (OpenSpec.ofChange Rows.valuePutsSpec) :=
  OpenClaim.holds_of_wide 3 Tryd.f3 rfl rfl rfl rfl rfl rfl rfl ⟨rfl, rfl, rfl, rfl, rfl⟩ rfl rfl rfl rfl rfl (by kernel_rfl) Tryd.func3 (by kernel_rfl)
    (of_decide_eq_true (by kernel_rfl)) (by unfold Func.isWrapper; first | (rw [if_pos (by decide +kernel)]; kernel_rfl) | (rw [if_neg (by decide +kernel)]; exact ⟨rfl, rfl⟩))
    (fun os started H enc _ => lifted pure os started H enc)
theorem proved (pure : Pure) : Rows.ValuePutsSaid := over pure
theorem card (pure : Pure) : Rows.ValuePutsCardSaid :=
  Claim7.holds_tied_plain_at .later [] [.data, .data, .data] true (true, "0c07123f308a968201183fd7117c883c7d7789a0b9d131a54359b9fd958c0658") true
    (proved pure) (fun _ h => by cases h) (by kernel_rfl) (fun _ h => by cases h) valuePuts_row_tie rfl ⟨rfl, rfl⟩ (by kernel_rfl) rfl
    (fun f fn hf hfn => by
      obtain rfl : f = 3 := Option.some.inj ((show Tryd.prog.funcNamed "pleach/pleachlaw06.ValuePuts" = some 3 by kernel_rfl).symm.trans hf) |>.symm
      obtain rfl : fn = Tryd.f3 := (Option.some.inj (Tryd.func3.symm.trans hfn)).symm
      refine ⟨by kernel_rfl, fun j t ht => ?_⟩
      rw [Tryd.params3] at ht
      have hm : t ∈ [23] := by
        have := Array.mem_of_getElem? ht
        simpa using this
      simp only [List.mem_cons, List.mem_nil_iff, or_false] at hm
      obtain rfl := hm
      all_goals first | exact (show Tryd.prog.wantsStandIn 23 = false by kernel_rfl))
    (by kernel_rfl)
end Go.Proofs.YthnhkaaodghpgaaDoor.AE.valuePuts
end
