/- Walks of the functions of the given program that the law reaches, what they compute, and laws on that. Conditions: as each theorem says. -/
import Derived.ArgAppend
import Derived.Below
import Derived.BigQuiet
import Derived.ChangeArms
import Derived.DataReads
import Derived.Deep.AppendLies
import Derived.Deep.CutBlock
import Derived.Deep.DeepCutAuto
import Derived.Deep.Draws
import Derived.Deep.LoopGhost
import Derived.Deep.OwnRows
import Derived.Deep.QuietTactic
import Derived.Deep.RegionHeld3
import Derived.Deep.Slices
import Derived.KernelRfl
import Derived.Laws.BitsLemmas
import Derived.Laws.BytesArg
import Derived.Laws.Externs
import Derived.Laws.IdiomCopy
import Derived.Laws.MakeOwn
import Derived.Laws.OwnMore
import Derived.Laws.Rows
import Derived.Laws.Slices
import Derived.Lib.AppendStr
import Derived.Lib.Bytealg
import Derived.Lib.ConvBytes
import Derived.Maps.AppendAt
import Derived.OrdersHeld
import Derived.OwnWalk
import Derived.RowKit
import Derived.RowKit3
import Derived.SizedLaws
import Derived.Tactics
import Derived.Test.YtmnadajjgnniaaaProg
import Derived.Test.YtmnadajjgnniaaaWApart
import Derived.Test.YtmnadajjgnniaaaWArr
import Derived.Test.YtmnadajjgnniaaaWAt
import Derived.Test.YtmnadajjgnniaaaWEqStruct
import Derived.Test.YtmnadajjgnniaaaWFoot
import Derived.Test.YtmnadajjgnniaaaWFootNe
import Derived.Test.YtmnadajjgnniaaaWFour
import Derived.Test.YtmnadajjgnniaaaWGuard
import Derived.Test.YtmnadajjgnniaaaWInv
import Derived.Test.YtmnadajjgnniaaaWInvWords
import Derived.Test.YtmnadajjgnniaaaWKept
import Derived.Test.YtmnadajjgnniaaaWLast
import Derived.Test.YtmnadajjgnniaaaWMore
import Derived.Test.YtmnadajjgnniaaaWN
import Derived.Test.YtmnadajjgnniaaaWNEv
import Derived.Test.YtmnadajjgnniaaaWQPut
import Derived.Test.YtmnadajjgnniaaaWRepsOne
import Derived.Test.YtmnadajjgnniaaaWShare
import Derived.Test.YtmnadajjgnniaaaWTab
import Derived.Test.YtmnadajjgnniaaaWWords
import Derived.Test.YtmnadajjgnniaaaWZeros
import Derived.WalkKit
import Derived.WideLaws
import Derived.WideShapes
set_option linter.unusedVariables false
set_option linter.unusedSimpArgs false
section
namespace Go.Proofs.Ytmnadajjgnniaaa.HBase
open Go
theorem less_leq : ∀ x y : List UInt8, (Op.bytesLess x y || x == y) = !(Op.bytesLess y x)
  | [], [] => by simp [Op.bytesLess]
  | [], b :: y => by simp [Op.bytesLess]
  | a :: x, [] => by simp [Op.bytesLess]
  | a :: x, b :: y => by
    have ih := less_leq x y
    by_cases h1 : a < b
    · have h2 : ¬ b < a := by simp only [UInt8.lt_iff_toNat_lt] at *; omega
      have h3 : ¬ b = a := by rintro rfl; simp at h1
      simp [Op.bytesLess, h1, h2, h3]
    · by_cases h2 : b < a
      · have h3 : ¬ b = a := by rintro rfl; simp at h2
        have h4 : ¬ a = b := fun h => h3 h.symm
        simp [Op.bytesLess, h1, h2, h4]
      · have h3 : a = b := by
          apply UInt8.toNat_inj.1
          simp only [UInt8.lt_iff_toNat_lt] at *
          omega
        subst h3
        simp [Op.bytesLess, h1] at ih ⊢
        exact ih
@[go_sem high] theorem binOp_string_leq_p (t : TypeId) (a b : ByteArray) : binOp .leq t (.string a) (.string b) = pure (.bool !(Op.bytesLess b.toList a.toList)) := by
  simp [binOp, Op.stringOp, ← less_leq]
@[go_sem high] theorem binOp_string_gtr_p (t : TypeId) (a b : ByteArray) : binOp .gtr t (.string a) (.string b) = pure (.bool (Op.bytesLess b.toList a.toList)) := by
  show pure (Value.bool !(Op.bytesLess a.toList b.toList || a.toList == b.toList)) = _
  rw [less_leq, Bool.not_not]
@[go_sem high] theorem binOp_string_geq_p (t : TypeId) (a b : ByteArray) : binOp .geq t (.string a) (.string b) = pure (.bool !(Op.bytesLess a.toList b.toList)) := by simp [binOp, Op.stringOp]
end Go.Proofs.Ytmnadajjgnniaaa.HBase
end
section
namespace Go.Proofs.Ytmnadajjgnniaaa.MA
open Go.RowKit Go.Proofs.YtmnadajjgnniaaaW.PrintWords Go.Proofs.YtmnadajjgnniaaaW.PrintLast Go.Proofs.YtmnadajjgnniaaaW.PrintMore
attribute [local go_sem] max2_int min2_int max_two min_two max_three min_three max_four min_four   -- for this text's walks alone
set_option linter.unusedVariables false
set_option linter.unusedSimpArgs false



def errW : Option Int → Value
  | none => .nilIface
  | some c => .iface 0 (.int .i64 c)
theorem errW_none : errW none = .nilIface := rfl
theorem errW_some (c : Int) : errW (some c) = .iface 0 (.int .i64 c) := rfl

theorem info3 : (Try.prog.info? 3).map (fun i => (i.zero, i.size, i.bytes)) = some (some (.int .i64 0), 1, 8) := by kernel_rfl
theorem info5 : (Try.prog.info? 5).map (fun i => (i.zero, i.size, i.bytes)) = some (some (.int .u8 0), 1, 1) := by kernel_rfl
theorem info9 : (Try.prog.info? 9).map (fun i => (i.zero, i.size, i.bytes)) = some (some (.string ⟨#[]⟩), 1, 16) := by kernel_rfl
theorem info25 : (Try.prog.info? 25).map (fun i => (i.zero, i.size, i.bytes)) = some (some (.agg #[(.string ⟨#[]⟩), (.slice none 0 0), (.slice none 0 0)]), 3, 64) := by kernel_rfl
theorem info38 : (Try.prog.info? 38).map (fun i => (i.zero, i.size, i.bytes)) = some (some (.agg #[(.string ⟨#[]⟩), (.string ⟨#[]⟩), (.string ⟨#[]⟩), (.slice none 0 0), (.slice none 0 0)]), 5, 96) := by kernel_rfl
theorem info98 : (Try.prog.info? 98).map (fun i => (i.zero, i.size, i.bytes)) = some (some (.agg #[(.string ⟨#[]⟩), (.int .i64 0), (.int .i64 0), (.string ⟨#[]⟩)]), 4, 48) := by kernel_rfl
-- the values' own types
structure S80 where
  f0 : Int
  f1 : Int
  f2 : ByteArray
def z80 : S80 := ⟨(0 : Int), (0 : Int), (⟨#[]⟩ : ByteArray)⟩
def k80 : Kd S80 := Kd.iso (Kd.pair (Kd.int .i64) (Kd.pair (Kd.int .i64) Kd.string)) (fun x : S80 => (x.f0, x.f1, x.f2))
theorem k80_open {w : World} {x : S80} {cs : List Value} (h : k80.K w x cs) : cs = [.int .i64 x.f0, .int .i64 x.f1, .string x.f2] := by
  obtain ⟨_, _, rfl, rfl, ⟨_, _, rfl, rfl, rfl⟩⟩ := h
  exact rfl
theorem k80_openM {w : World} {base : Nat} {ok : Nat → Prop} {x : S80} {cs : List Value} (h : k80.M w base ok x cs) : cs = [.int .i64 x.f0, .int .i64 x.f1, .string x.f2] := by
  obtain ⟨_, _, rfl, rfl, ⟨_, _, rfl, rfl, rfl⟩⟩ := h
  exact rfl
theorem k80_mk (w : World) (x : S80)  : k80.K w x [.int .i64 x.f0, .int .i64 x.f1, .string x.f2] := ⟨[.int .i64 x.f0], [.int .i64 x.f1, .string x.f2], rfl, rfl, ⟨[.int .i64 x.f1], [.string x.f2], rfl, rfl, rfl⟩⟩
theorem k80_mkM (w : World) (base : Nat) (ok : Nat → Prop) (x : S80)  : k80.M w base ok x [.int .i64 x.f0, .int .i64 x.f1, .string x.f2] := ⟨[.int .i64 x.f0], [.int .i64 x.f1, .string x.f2], rfl, rfl, ⟨[.int .i64 x.f1], [.string x.f2], rfl, rfl, rfl⟩⟩
theorem k80_mkF (W : World) (ok : Nat → Prop) (x : S80) : Kd.FK k80 W ok x [.int .i64 x.f0, .int .i64 x.f1, .string x.f2] := fun W2 _ => k80_mk W2 x
def rd_T80 (xs : List S80) (i : Int) : S80 := xs.getD i.toNat z80
theorem at_T80 {w : World} {A : Option Addr} {n : Nat} {xs : List S80} (h : Kd.C k80 w A n xs) (i : Int) (h0 : 0 ≤ i) (h1 : i < n) : ∃ ad , A = some ad ∧ w.cell? (ad.add (i.toNat * 3)) = some (.int .i64 (rd_T80 xs i).f0) ∧ w.cell? ⟨(ad.add (i.toNat * 3)).block, (ad.add (i.toNat * 3)).off + 1, none⟩ = some (.int .i64 (rd_T80 xs i).f1) ∧ w.cell? ⟨(ad.add (i.toNat * 3)).block, (ad.add (i.toNat * 3)).off + 2, none⟩ = some (.string (rd_T80 xs i).f2) := by
  obtain ⟨ad, c, e, _, hK, hc0⟩ := Kd.C_get h z80 i h0 h1
  have hc : ∀ j u, c[j]? = some u → w.cell? (ad.add (i.toNat * 3 + j)) = some u := hc0
  obtain rfl := k80_open hK
  exact ⟨ad, e, hc 0 _ rfl, by rw [← add_field _ _ 1 (by omega)]; exact hc 1 _ rfl, by rw [← add_field _ _ 2 (by omega)]; exact hc 2 _ rfl⟩

structure S98 where
  f0 : ByteArray
  f1 : S80
def z98 : S98 := ⟨(⟨#[]⟩ : ByteArray), z80⟩
def k98 : Kd S98 := Kd.iso (Kd.pair Kd.string k80) (fun x : S98 => (x.f0, x.f1))
theorem k98_open {w : World} {x : S98} {cs : List Value} (h : k98.K w x cs) : cs = [.string x.f0, .int .i64 x.f1.f0, .int .i64 x.f1.f1, .string x.f1.f2] := by
  obtain ⟨_, _, rfl, rfl, s1⟩ := h
  obtain rfl := k80_open s1
  exact rfl
theorem k98_openM {w : World} {base : Nat} {ok : Nat → Prop} {x : S98} {cs : List Value} (h : k98.M w base ok x cs) : cs = [.string x.f0, .int .i64 x.f1.f0, .int .i64 x.f1.f1, .string x.f1.f2] := by
  obtain ⟨_, _, rfl, rfl, s1⟩ := h
  obtain rfl := k80_openM s1
  exact rfl
theorem k98_mk (w : World) (x : S98)  : k98.K w x [.string x.f0, .int .i64 x.f1.f0, .int .i64 x.f1.f1, .string x.f1.f2] := ⟨[.string x.f0], [.int .i64 x.f1.f0, .int .i64 x.f1.f1, .string x.f1.f2], rfl, rfl, (k80_mk w x.f1 )⟩
theorem k98_mkM (w : World) (base : Nat) (ok : Nat → Prop) (x : S98)  : k98.M w base ok x [.string x.f0, .int .i64 x.f1.f0, .int .i64 x.f1.f1, .string x.f1.f2] := ⟨[.string x.f0], [.int .i64 x.f1.f0, .int .i64 x.f1.f1, .string x.f1.f2], rfl, rfl, (k80_mkM w base ok x.f1 )⟩
theorem k98_mkF (W : World) (ok : Nat → Prop) (x : S98) : Kd.FK k98 W ok x [.string x.f0, .int .i64 x.f1.f0, .int .i64 x.f1.f1, .string x.f1.f2] := fun W2 _ => k98_mk W2 x
def rd_T98 (xs : List S98) (i : Int) : S98 := xs.getD i.toNat z98
theorem at_T98 {w : World} {A : Option Addr} {n : Nat} {xs : List S98} (h : Kd.C k98 w A n xs) (i : Int) (h0 : 0 ≤ i) (h1 : i < n) : ∃ ad , A = some ad ∧ w.cell? (ad.add (i.toNat * 4)) = some (.string (rd_T98 xs i).f0) ∧ w.cell? ⟨(ad.add (i.toNat * 4)).block, (ad.add (i.toNat * 4)).off + 1, none⟩ = some (.int .i64 (rd_T98 xs i).f1.f0) ∧ w.cell? ⟨(ad.add (i.toNat * 4)).block, (ad.add (i.toNat * 4)).off + 2, none⟩ = some (.int .i64 (rd_T98 xs i).f1.f1) ∧ w.cell? ⟨(ad.add (i.toNat * 4)).block, (ad.add (i.toNat * 4)).off + 3, none⟩ = some (.string (rd_T98 xs i).f1.f2) := by
  obtain ⟨ad, c, e, _, hK, hc0⟩ := Kd.C_get h z98 i h0 h1
  have hc : ∀ j u, c[j]? = some u → w.cell? (ad.add (i.toNat * 4 + j)) = some u := hc0
  obtain rfl := k98_open hK
  exact ⟨ad, e, hc 0 _ rfl, by rw [← add_field _ _ 1 (by omega)]; exact hc 1 _ rfl, by rw [← add_field _ _ 2 (by omega)]; exact hc 2 _ rfl, by rw [← add_field _ _ 3 (by omega)]; exact hc 3 _ rfl⟩

def rd_L5 (xs : List (List ByteArray)) (i : Int) : (List ByteArray) := xs.getD i.toNat ([] : List ByteArray)
theorem at_L5 {w : World} {A : Option Addr} {n : Nat} {xs : List (List ByteArray)} (h : Kd.C (Kd.slice 9 Kd.string) w A n xs) (i : Int) (h0 : 0 ≤ i) (h1 : i < n) : ∃ ad A0 c0, A = some ad ∧ w.cell? (ad.add i.toNat) = some (.slice A0 (rd_L5 xs i).length c0) ∧ (rd_L5 xs i).length ≤ c0 ∧ Kd.string.C w A0 (rd_L5 xs i).length (rd_L5 xs i) := by
  obtain ⟨ad, c, e, _, hK, hc0⟩ := Kd.C_get h ([] : List ByteArray) i h0 h1
  have hc : ∀ j u, c[j]? = some u → w.cell? (ad.add (i.toNat * 1 + j)) = some u := hc0
  obtain ⟨A0, c0, rfl, l0, g0⟩ := hK
  exact ⟨ad, A0, c0, e, by have hq := hc 0 _ rfl; rwa [Nat.mul_one, Nat.add_zero] at hq, l0, g0⟩

def rd_L6 (xs : List (List S98)) (i : Int) : (List S98) := xs.getD i.toNat ([] : List S98)
theorem at_L6 {w : World} {A : Option Addr} {n : Nat} {xs : List (List S98)} (h : Kd.C (Kd.slice 98 k98) w A n xs) (i : Int) (h0 : 0 ≤ i) (h1 : i < n) : ∃ ad A0 c0, A = some ad ∧ w.cell? (ad.add i.toNat) = some (.slice A0 (rd_L6 xs i).length c0) ∧ (rd_L6 xs i).length ≤ c0 ∧ k98.C w A0 (rd_L6 xs i).length (rd_L6 xs i) := by
  obtain ⟨ad, c, e, _, hK, hc0⟩ := Kd.C_get h ([] : List S98) i h0 h1
  have hc : ∀ j u, c[j]? = some u → w.cell? (ad.add (i.toNat * 1 + j)) = some u := hc0
  obtain ⟨A0, c0, rfl, l0, g0⟩ := hK
  exact ⟨ad, A0, c0, e, by have hq := hc 0 _ rfl; rwa [Nat.mul_one, Nat.add_zero] at hq, l0, g0⟩

structure S25 where
  f0 : ByteArray
  f1 : (List ByteArray)
  f2 : (List S98)
def z25 : S25 := ⟨(⟨#[]⟩ : ByteArray), ([] : List ByteArray), ([] : List S98)⟩
def k25 : Kd S25 := Kd.iso (Kd.pair Kd.string (Kd.pair (Kd.slice 9 Kd.string) (Kd.slice 98 k98))) (fun x : S25 => (x.f0, x.f1, x.f2))
theorem k25_open {w : World} {x : S25} {cs : List Value} (h : k25.K w x cs) : ∃ A1 c1 A2 c2, cs = [.string x.f0, .slice A1 x.f1.length c1, .slice A2 x.f2.length c2] ∧ x.f1.length ≤ c1 ∧ Kd.string.C w A1 x.f1.length x.f1 ∧ x.f2.length ≤ c2 ∧ k98.C w A2 x.f2.length x.f2 := by
  obtain ⟨_, _, rfl, rfl, ⟨_, _, rfl, ⟨A1, c1, rfl, l1, g1⟩, ⟨A2, c2, rfl, l2, g2⟩⟩⟩ := h
  exact ⟨A1, c1, A2, c2, rfl, l1, g1, l2, g2⟩
theorem k25_openM {w : World} {base : Nat} {ok : Nat → Prop} {x : S25} {cs : List Value} (h : k25.M w base ok x cs) : ∃ v1 v2, cs = [.string x.f0, v1, v2] ∧ Kd.string.R 9 w base ok v1 x.f1 ∧ k98.R 98 w base ok v2 x.f2 := by
  obtain ⟨_, _, rfl, rfl, ⟨_, _, rfl, ⟨v1, rfl, g1⟩, ⟨v2, rfl, g2⟩⟩⟩ := h
  exact ⟨v1, v2, rfl, g1, g2⟩
theorem k25_mk (w : World) (x : S25) {A1 : Option Addr} {c1 : Nat} (l1 : x.f1.length ≤ c1) (g1 : Kd.string.C w A1 x.f1.length x.f1) {A2 : Option Addr} {c2 : Nat} (l2 : x.f2.length ≤ c2) (g2 : k98.C w A2 x.f2.length x.f2) : k25.K w x [.string x.f0, .slice A1 x.f1.length c1, .slice A2 x.f2.length c2] := ⟨[.string x.f0], [.slice A1 x.f1.length c1, .slice A2 x.f2.length c2], rfl, rfl, ⟨[.slice A1 x.f1.length c1], [.slice A2 x.f2.length c2], rfl, ⟨A1, c1, rfl, l1, g1⟩, ⟨A2, c2, rfl, l2, g2⟩⟩⟩
theorem k25_mkM (w : World) (base : Nat) (ok : Nat → Prop) (x : S25) {v1 : Value} (g1 : Kd.string.R 9 w base ok v1 x.f1) {v2 : Value} (g2 : k98.R 98 w base ok v2 x.f2) : k25.M w base ok x [.string x.f0, v1, v2] := ⟨[.string x.f0], [v1, v2], rfl, rfl, ⟨[v1], [v2], rfl, ⟨v1, rfl, g1⟩, ⟨v2, rfl, g2⟩⟩⟩
theorem k25_openF {W : World} {ok : Nat → Prop} {x : S25} {cs : List Value} (h : Kd.FK k25 W ok x cs) : ∃ A1 c1 A2 c2, cs = [.string x.f0, .slice A1 x.f1.length c1, .slice A2 x.f2.length c2] ∧ x.f1.length ≤ c1 ∧ Kd.F Kd.string W ok A1 x.f1.length x.f1 ∧ x.f2.length ≤ c2 ∧ Kd.F k98 W ok A2 x.f2.length x.f2 := by
  obtain ⟨A1, c1, A2, c2, rfl, l1, _, l2, _⟩ := k25_open (Kd.FK_now h)
  exact ⟨A1, c1, A2, c2, rfl, l1, (fun W' hW => by obtain ⟨A1_, c1_, A2_, c2_, he, l1_, g1_, l2_, g2_⟩ := k25_open (h W' hW); injection (Option.some.inj (show some (Value.slice A1 x.f1.length c1) = some (Value.slice A1_ x.f1.length c1_) from congrArg (fun l => l[1]?) he)) with ha_ _ _; rw [ha_]; exact g1_), l2, (fun W' hW => by obtain ⟨A1_, c1_, A2_, c2_, he, l1_, g1_, l2_, g2_⟩ := k25_open (h W' hW); injection (Option.some.inj (show some (Value.slice A2 x.f2.length c2) = some (Value.slice A2_ x.f2.length c2_) from congrArg (fun l => l[2]?) he)) with ha_ _ _; rw [ha_]; exact g2_)⟩
theorem k25_mkF (W : World) (ok : Nat → Prop) (x : S25) {A1 : Option Addr} {c1 : Nat} (l1 : x.f1.length ≤ c1) (g1 : Kd.F Kd.string W ok A1 x.f1.length x.f1) {A2 : Option Addr} {c2 : Nat} (l2 : x.f2.length ≤ c2) (g2 : Kd.F k98 W ok A2 x.f2.length x.f2) : Kd.FK k25 W ok x [.string x.f0, .slice A1 x.f1.length c1, .slice A2 x.f2.length c2] := fun W2 hW => k25_mk W2 x l1 (g1 W2 hW) l2 (g2 W2 hW)
def rd_T25 (xs : List S25) (i : Int) : S25 := xs.getD i.toNat z25
theorem at_T25 {w : World} {A : Option Addr} {n : Nat} {xs : List S25} (h : Kd.C k25 w A n xs) (i : Int) (h0 : 0 ≤ i) (h1 : i < n) : ∃ ad A1 c1 A2 c2, A = some ad ∧ w.cell? (ad.add (i.toNat * 3)) = some (.string (rd_T25 xs i).f0) ∧ w.cell? ⟨(ad.add (i.toNat * 3)).block, (ad.add (i.toNat * 3)).off + 1, none⟩ = some (.slice A1 (rd_T25 xs i).f1.length c1) ∧ w.cell? ⟨(ad.add (i.toNat * 3)).block, (ad.add (i.toNat * 3)).off + 2, none⟩ = some (.slice A2 (rd_T25 xs i).f2.length c2) ∧ (rd_T25 xs i).f1.length ≤ c1 ∧ Kd.string.C w A1 (rd_T25 xs i).f1.length (rd_T25 xs i).f1 ∧ (rd_T25 xs i).f2.length ≤ c2 ∧ k98.C w A2 (rd_T25 xs i).f2.length (rd_T25 xs i).f2 := by
  obtain ⟨ad, c, e, _, hK, hc0⟩ := Kd.C_get h z25 i h0 h1
  have hc : ∀ j u, c[j]? = some u → w.cell? (ad.add (i.toNat * 3 + j)) = some u := hc0
  obtain ⟨A1, c1, A2, c2, rfl, l1, g1, l2, g2⟩ := k25_open hK
  exact ⟨ad, A1, c1, A2, c2, e, hc 0 _ rfl, by rw [← add_field _ _ 1 (by omega)]; exact hc 1 _ rfl, by rw [← add_field _ _ 2 (by omega)]; exact hc 2 _ rfl, l1, g1, l2, g2⟩

structure S38 where
  f0 : ByteArray
  f1 : ByteArray
  f2 : ByteArray
  f3 : (List ByteArray)
  f4 : (List S98)
def z38 : S38 := ⟨(⟨#[]⟩ : ByteArray), (⟨#[]⟩ : ByteArray), (⟨#[]⟩ : ByteArray), ([] : List ByteArray), ([] : List S98)⟩
def k38 : Kd S38 := Kd.iso (Kd.pair Kd.string (Kd.pair Kd.string (Kd.pair Kd.string (Kd.pair (Kd.slice 9 Kd.string) (Kd.slice 98 k98))))) (fun x : S38 => (x.f0, x.f1, x.f2, x.f3, x.f4))
theorem k38_open {w : World} {x : S38} {cs : List Value} (h : k38.K w x cs) : ∃ A3 c3 A4 c4, cs = [.string x.f0, .string x.f1, .string x.f2, .slice A3 x.f3.length c3, .slice A4 x.f4.length c4] ∧ x.f3.length ≤ c3 ∧ Kd.string.C w A3 x.f3.length x.f3 ∧ x.f4.length ≤ c4 ∧ k98.C w A4 x.f4.length x.f4 := by
  obtain ⟨_, _, rfl, rfl, ⟨_, _, rfl, rfl, ⟨_, _, rfl, rfl, ⟨_, _, rfl, ⟨A3, c3, rfl, l3, g3⟩, ⟨A4, c4, rfl, l4, g4⟩⟩⟩⟩⟩ := h
  exact ⟨A3, c3, A4, c4, rfl, l3, g3, l4, g4⟩
theorem k38_openM {w : World} {base : Nat} {ok : Nat → Prop} {x : S38} {cs : List Value} (h : k38.M w base ok x cs) : ∃ v3 v4, cs = [.string x.f0, .string x.f1, .string x.f2, v3, v4] ∧ Kd.string.R 9 w base ok v3 x.f3 ∧ k98.R 98 w base ok v4 x.f4 := by
  obtain ⟨_, _, rfl, rfl, ⟨_, _, rfl, rfl, ⟨_, _, rfl, rfl, ⟨_, _, rfl, ⟨v3, rfl, g3⟩, ⟨v4, rfl, g4⟩⟩⟩⟩⟩ := h
  exact ⟨v3, v4, rfl, g3, g4⟩
theorem k38_mk (w : World) (x : S38) {A3 : Option Addr} {c3 : Nat} (l3 : x.f3.length ≤ c3) (g3 : Kd.string.C w A3 x.f3.length x.f3) {A4 : Option Addr} {c4 : Nat} (l4 : x.f4.length ≤ c4) (g4 : k98.C w A4 x.f4.length x.f4) : k38.K w x [.string x.f0, .string x.f1, .string x.f2, .slice A3 x.f3.length c3, .slice A4 x.f4.length c4] := ⟨[.string x.f0], [.string x.f1, .string x.f2, .slice A3 x.f3.length c3, .slice A4 x.f4.length c4], rfl, rfl, ⟨[.string x.f1], [.string x.f2, .slice A3 x.f3.length c3, .slice A4 x.f4.length c4], rfl, rfl, ⟨[.string x.f2], [.slice A3 x.f3.length c3, .slice A4 x.f4.length c4], rfl, rfl, ⟨[.slice A3 x.f3.length c3], [.slice A4 x.f4.length c4], rfl, ⟨A3, c3, rfl, l3, g3⟩, ⟨A4, c4, rfl, l4, g4⟩⟩⟩⟩⟩
theorem k38_mkM (w : World) (base : Nat) (ok : Nat → Prop) (x : S38) {v3 : Value} (g3 : Kd.string.R 9 w base ok v3 x.f3) {v4 : Value} (g4 : k98.R 98 w base ok v4 x.f4) : k38.M w base ok x [.string x.f0, .string x.f1, .string x.f2, v3, v4] := ⟨[.string x.f0], [.string x.f1, .string x.f2, v3, v4], rfl, rfl, ⟨[.string x.f1], [.string x.f2, v3, v4], rfl, rfl, ⟨[.string x.f2], [v3, v4], rfl, rfl, ⟨[v3], [v4], rfl, ⟨v3, rfl, g3⟩, ⟨v4, rfl, g4⟩⟩⟩⟩⟩
theorem k38_openF {W : World} {ok : Nat → Prop} {x : S38} {cs : List Value} (h : Kd.FK k38 W ok x cs) : ∃ A3 c3 A4 c4, cs = [.string x.f0, .string x.f1, .string x.f2, .slice A3 x.f3.length c3, .slice A4 x.f4.length c4] ∧ x.f3.length ≤ c3 ∧ Kd.F Kd.string W ok A3 x.f3.length x.f3 ∧ x.f4.length ≤ c4 ∧ Kd.F k98 W ok A4 x.f4.length x.f4 := by
  obtain ⟨A3, c3, A4, c4, rfl, l3, _, l4, _⟩ := k38_open (Kd.FK_now h)
  exact ⟨A3, c3, A4, c4, rfl, l3, (fun W' hW => by obtain ⟨A3_, c3_, A4_, c4_, he, l3_, g3_, l4_, g4_⟩ := k38_open (h W' hW); injection (Option.some.inj (show some (Value.slice A3 x.f3.length c3) = some (Value.slice A3_ x.f3.length c3_) from congrArg (fun l => l[3]?) he)) with ha_ _ _; rw [ha_]; exact g3_), l4, (fun W' hW => by obtain ⟨A3_, c3_, A4_, c4_, he, l3_, g3_, l4_, g4_⟩ := k38_open (h W' hW); injection (Option.some.inj (show some (Value.slice A4 x.f4.length c4) = some (Value.slice A4_ x.f4.length c4_) from congrArg (fun l => l[4]?) he)) with ha_ _ _; rw [ha_]; exact g4_)⟩
theorem k38_mkF (W : World) (ok : Nat → Prop) (x : S38) {A3 : Option Addr} {c3 : Nat} (l3 : x.f3.length ≤ c3) (g3 : Kd.F Kd.string W ok A3 x.f3.length x.f3) {A4 : Option Addr} {c4 : Nat} (l4 : x.f4.length ≤ c4) (g4 : Kd.F k98 W ok A4 x.f4.length x.f4) : Kd.FK k38 W ok x [.string x.f0, .string x.f1, .string x.f2, .slice A3 x.f3.length c3, .slice A4 x.f4.length c4] := fun W2 hW => k38_mk W2 x l3 (g3 W2 hW) l4 (g4 W2 hW)
def rd_T38 (xs : List S38) (i : Int) : S38 := xs.getD i.toNat z38
theorem at_T38 {w : World} {A : Option Addr} {n : Nat} {xs : List S38} (h : Kd.C k38 w A n xs) (i : Int) (h0 : 0 ≤ i) (h1 : i < n) : ∃ ad A3 c3 A4 c4, A = some ad ∧ w.cell? (ad.add (i.toNat * 5)) = some (.string (rd_T38 xs i).f0) ∧ w.cell? ⟨(ad.add (i.toNat * 5)).block, (ad.add (i.toNat * 5)).off + 1, none⟩ = some (.string (rd_T38 xs i).f1) ∧ w.cell? ⟨(ad.add (i.toNat * 5)).block, (ad.add (i.toNat * 5)).off + 2, none⟩ = some (.string (rd_T38 xs i).f2) ∧ w.cell? ⟨(ad.add (i.toNat * 5)).block, (ad.add (i.toNat * 5)).off + 3, none⟩ = some (.slice A3 (rd_T38 xs i).f3.length c3) ∧ w.cell? ⟨(ad.add (i.toNat * 5)).block, (ad.add (i.toNat * 5)).off + 4, none⟩ = some (.slice A4 (rd_T38 xs i).f4.length c4) ∧ (rd_T38 xs i).f3.length ≤ c3 ∧ Kd.string.C w A3 (rd_T38 xs i).f3.length (rd_T38 xs i).f3 ∧ (rd_T38 xs i).f4.length ≤ c4 ∧ k98.C w A4 (rd_T38 xs i).f4.length (rd_T38 xs i).f4 := by
  obtain ⟨ad, c, e, _, hK, hc0⟩ := Kd.C_get h z38 i h0 h1
  have hc : ∀ j u, c[j]? = some u → w.cell? (ad.add (i.toNat * 5 + j)) = some u := hc0
  obtain ⟨A3, c3, A4, c4, rfl, l3, g3, l4, g4⟩ := k38_open hK
  exact ⟨ad, A3, c3, A4, c4, e, hc 0 _ rfl, by rw [← add_field _ _ 1 (by omega)]; exact hc 1 _ rfl, by rw [← add_field _ _ 2 (by omega)]; exact hc 2 _ rfl, by rw [← add_field _ _ 3 (by omega)]; exact hc 3 _ rfl, by rw [← add_field _ _ 4 (by omega)]; exact hc 4 _ rfl, l3, g3, l4, g4⟩

structure S60 where
  f0 : ByteArray
  f1 : ByteArray
def z60 : S60 := ⟨(⟨#[]⟩ : ByteArray), (⟨#[]⟩ : ByteArray)⟩
def k60 : Kd S60 := Kd.iso (Kd.pair Kd.string Kd.string) (fun x : S60 => (x.f0, x.f1))
theorem k60_open {w : World} {x : S60} {cs : List Value} (h : k60.K w x cs) : cs = [.string x.f0, .string x.f1] := by
  obtain ⟨_, _, rfl, rfl, rfl⟩ := h
  exact rfl
theorem k60_openM {w : World} {base : Nat} {ok : Nat → Prop} {x : S60} {cs : List Value} (h : k60.M w base ok x cs) : cs = [.string x.f0, .string x.f1] := by
  obtain ⟨_, _, rfl, rfl, rfl⟩ := h
  exact rfl
theorem k60_mk (w : World) (x : S60)  : k60.K w x [.string x.f0, .string x.f1] := ⟨[.string x.f0], [.string x.f1], rfl, rfl, rfl⟩
theorem k60_mkM (w : World) (base : Nat) (ok : Nat → Prop) (x : S60)  : k60.M w base ok x [.string x.f0, .string x.f1] := ⟨[.string x.f0], [.string x.f1], rfl, rfl, rfl⟩
theorem k60_mkF (W : World) (ok : Nat → Prop) (x : S60) : Kd.FK k60 W ok x [.string x.f0, .string x.f1] := fun W2 _ => k60_mk W2 x
def rd_T60 (xs : List S60) (i : Int) : S60 := xs.getD i.toNat z60
theorem at_T60 {w : World} {A : Option Addr} {n : Nat} {xs : List S60} (h : Kd.C k60 w A n xs) (i : Int) (h0 : 0 ≤ i) (h1 : i < n) : ∃ ad , A = some ad ∧ w.cell? (ad.add (i.toNat * 2)) = some (.string (rd_T60 xs i).f0) ∧ w.cell? ⟨(ad.add (i.toNat * 2)).block, (ad.add (i.toNat * 2)).off + 1, none⟩ = some (.string (rd_T60 xs i).f1) := by
  obtain ⟨ad, c, e, _, hK, hc0⟩ := Kd.C_get h z60 i h0 h1
  have hc : ∀ j u, c[j]? = some u → w.cell? (ad.add (i.toNat * 2 + j)) = some u := hc0
  obtain rfl := k60_open hK
  exact ⟨ad, e, hc 0 _ rfl, by rw [← add_field _ _ 1 (by omega)]; exact hc 1 _ rfl⟩

def rd_L10 (xs : List (List S60)) (i : Int) : (List S60) := xs.getD i.toNat ([] : List S60)
theorem at_L10 {w : World} {A : Option Addr} {n : Nat} {xs : List (List S60)} (h : Kd.C (Kd.slice 60 k60) w A n xs) (i : Int) (h0 : 0 ≤ i) (h1 : i < n) : ∃ ad A0 c0, A = some ad ∧ w.cell? (ad.add i.toNat) = some (.slice A0 (rd_L10 xs i).length c0) ∧ (rd_L10 xs i).length ≤ c0 ∧ k60.C w A0 (rd_L10 xs i).length (rd_L10 xs i) := by
  obtain ⟨ad, c, e, _, hK, hc0⟩ := Kd.C_get h ([] : List S60) i h0 h1
  have hc : ∀ j u, c[j]? = some u → w.cell? (ad.add (i.toNat * 1 + j)) = some u := hc0
  obtain ⟨A0, c0, rfl, l0, g0⟩ := hK
  exact ⟨ad, A0, c0, e, by have hq := hc 0 _ rfl; rwa [Nat.mul_one, Nat.add_zero] at hq, l0, g0⟩

end Go.Proofs.Ytmnadajjgnniaaa.MA
end
section
namespace Go.Proofs.Ytmnadajjgnniaaa.HOpen
open Go.RowKit Go.Proofs.YtmnadajjgnniaaaW.PrintWords Go.ChangeShapes Go.WideShapes Go.Deep
section
variable {H : Type} (enc : TypeId × Value → H) (P : Program) (W : World)
def Opens {α : Type} (t : TypeId) (K : α → List Value → Prop) (G : α → Prop) : Prop :=
  ∀ (fuel : Nat) (cs : List Value) (x : DataW H × List MemPlace), DataW.trod enc P W 0 (fun _ => true) true fuel t cs = some x → (∀ n ∈ x.1.weights P t, n ≤ 140737488351232) → ∃ a, K a cs ∧ G a
variable {enc P W}
theorem opens_int {t : TypeId} {k : IntKind} (ht : P.underlying t = some (.int k)) : Opens enc P W t ((Kd.int k).K W) (fun n => (Lit.int k n).wf = true) := by
  intro fuel cs x h _
  obtain ⟨n, rfl, _, hn⟩ := DataW.trod_int ht h
  exact ⟨n, rfl, hn⟩
theorem opens_bool {t : TypeId} (ht : P.underlying t = some .bool) : Opens enc P W t (Kd.bool.K W) (fun _ => True) := by
  intro fuel cs x h _
  obtain ⟨n, rfl, _⟩ := DataW.trod_bool ht h
  exact ⟨n, rfl, trivial⟩
theorem opens_string {t : TypeId} (ht : P.underlying t = some .string) : Opens enc P W t (Kd.string.K W) (fun s => s.size ≤ 140737488351232) := by
  intro fuel cs x h hw
  obtain ⟨s, rfl, rfl, _⟩ := DataW.trod_string ht h
  refine ⟨s, rfl, ?_⟩
  have := hw s.data.toList.length (by simp [DataW.weights])
  simpa using this
theorem weights_all_mem {e : TypeId} {n : Nat} {d : DataW H} : ∀ {ds : List (DataW H)}, d ∈ ds → n ∈ d.weights P e → n ∈ DataW.weightsAll P e ds
  | d' :: r, hd, hn => by
    unfold DataW.weightsAll
    rcases List.mem_cons.1 hd with rfl | hd
    · exact List.mem_append_left _ hn
    · exact List.mem_append_right _ (weights_all_mem hd hn)
theorem choose_list {α : Type} {p : Nat → α → Prop} : ∀ n, (∀ i, i < n → ∃ a, p i a) → ∃ l : List α, l.length = n ∧ ∀ i a, l[i]? = some a → p i a
  | 0, _ => ⟨[], rfl, fun i a h => by simp at h⟩
  | n + 1, h => by
    obtain ⟨l, hl, hp⟩ := choose_list n (fun i hi => h i (by omega))
    obtain ⟨a, ha⟩ := h n (by omega)
    refine ⟨l ++ [a], by simp [hl], fun i b hb => ?_⟩
    rcases Nat.lt_trichotomy i n with hi | hi | hi
    · rw [List.getElem?_append_left (by omega)] at hb
      exact hp i b hb
    · subst hi
      rw [List.getElem?_append_right (by omega), hl] at hb
      simp at hb
      subst hb
      exact ha
    · rw [List.getElem?_append_right (by omega), List.getElem?_eq_none (by simp; omega)] at hb
      cases hb
theorem opens_slice {α : Type} {t e : TypeId} {d : Kd α} {G : α → Prop} {B : Nat} (ht : P.underlying t = some (.slice e)) (hs : P.cellsOf e = d.sz) (hb : P.bytesOf e = B) (he : Opens enc P W e (d.K W) G) :
    Opens enc P W t ((Kd.slice e d).K W) (fun l => l.length * B ≤ 140737488351232 ∧ ∀ x ∈ l, G x) := by
  intro fuel cs x h hw
  rcases open_slice ht h with ⟨rfl, _⟩ | ⟨a, len, cap, m, n, D, Pl, rfl, _, hl, hm, hmm, rfl, hi⟩
  · refine ⟨[], ⟨none, 0, rfl, Nat.le_refl _, rfl, by simp, fun h => absurd h (by simp)⟩, by simp, by simp⟩
  · have hlm : len ≤ m := by rw [hmm]; simpa using hl
    have hwt : ((len + (m - len)) * B) ≤ 140737488351232 := by
      have := hw ((len + (m - len)) * B) (by simp [DataW.weights, ht, hb])
      exact this
    obtain ⟨l, hll, hp⟩ := choose_list (α := α) (p := fun i y => ∃ c, d.K W y c ∧ G y ∧ ∀ q u, c[q]? = some u → W.cell? (a.add (i * d.sz + q)) = some u) len (fun i hil => by
      obtain ⟨cs', hc, htr⟩ := hi i (by omega)
      obtain ⟨y, hy, hg⟩ := he n cs' _ htr (fun q hq => by
        refine hw q ?_
        simp only [DataW.weights, ht]
        refine List.mem_cons_of_mem _ (List.mem_append_left _ (weights_all_mem (d := D i) ?_ hq))
        exact List.mem_map.2 ⟨i, by simpa using hil, rfl⟩)
      obtain ⟨_, hcl, hat⟩ := World.cells?_some hc
      refine ⟨y, cs', hy, hg, fun q u hq => ?_⟩
      rw [hs] at hat hcl
      have hql : q < d.sz := by
        have := (List.getElem?_eq_some_iff.1 hq).1
        omega
      have h1 := hat q hql
      rw [Go.Deep.add_add] at h1
      rw [h1, hq])
    refine ⟨l, ⟨some a, cap, by rw [hll], by omega, rfl, by unfold maxLen at hm; omega, fun _ => ⟨a, rfl, fun j p hj => ?_⟩⟩, ?_, ?_⟩
    · obtain ⟨c, hK, _, hc⟩ := hp j p hj
      exact ⟨c, d.K_len hK, hK, hc⟩
    · rw [hll]
      exact Nat.le_trans (Nat.mul_le_mul_right _ (by omega)) hwt
    · intro x hx
      obtain ⟨i, hi⟩ := List.getElem?_of_mem hx
      obtain ⟨_, _, hg, _⟩ := hp i x hi
      exact hg
theorem weights_each {p : Nat → Bool} {ts : List TypeId} {ds : List (DataW H)} (h : (DataW.weightsEach P ts ds).all p = true) {j : Nat} {t : TypeId} {d : DataW H} (ht : ts[j]? = some t) (hd : ds[j]? = some d) : ∀ n ∈ d.weights P t, p n = true :=
  fun n hn => List.all_eq_true.1 h _ (DataW.weights_mem_each ht hd n hn)
end
end Go.Proofs.Ytmnadajjgnniaaa.HOpen
end
section
namespace Go.Proofs.Ytmnadajjgnniaaa.MA
open Go.RowKit Go.Proofs.YtmnadajjgnniaaaW.PrintWords Go.Proofs.Ytmnadajjgnniaaa.HOpen
def G80 (x : S80) : Prop := (Lit.int .i64 x.f0).wf = true ∧ (Lit.int .i64 x.f1).wf = true ∧ x.f2.size ≤ 140737488351232
set_option maxRecDepth 100000 in
theorem open_T80 {H : Type} {enc : TypeId × Value → H} {W : World} : Opens enc Try.prog W 80 (k80.K W) G80 := by
  intro fuel cs x h hw
  obtain ⟨xs, n, _, rfl, hlen, hxl, hf⟩ := DataW.trod_struct Try.underlying80 h
  have hL : Try.prog.cellsOf 80 = 3 := by kernel_rfl
  rw [hL] at hlen
  match xs, hxl with
  | [y0, y1, y2], _ =>
    have c0 : Try.prog.cellsOf 3 = 1 := by kernel_rfl
    have h0 : DataW.trod enc Try.prog W 0 (fun _ => true) true n 3 ((cs.drop 0).take (Try.prog.cellsOf 3)) = some y0 := hf 0 _ rfl
    rw [c0] at h0
    obtain ⟨a0, k0, g0⟩ := (opens_int Try.underlying3) n _ y0 h0 (fun q hq => hw q (by simp only [DataW.weights, Try.underlying80]; exact DataW.weights_mem_each (j := 0) rfl rfl q hq))
    have c1 : Try.prog.cellsOf 3 = 1 := by kernel_rfl
    have h1 : DataW.trod enc Try.prog W 0 (fun _ => true) true n 3 ((cs.drop 1).take (Try.prog.cellsOf 3)) = some y1 := hf 1 _ rfl
    rw [c1] at h1
    obtain ⟨a1, k1, g1⟩ := (opens_int Try.underlying3) n _ y1 h1 (fun q hq => hw q (by simp only [DataW.weights, Try.underlying80]; exact DataW.weights_mem_each (j := 1) rfl rfl q hq))
    have c2 : Try.prog.cellsOf 9 = 1 := by kernel_rfl
    have h2 : DataW.trod enc Try.prog W 0 (fun _ => true) true n 9 ((cs.drop 2).take (Try.prog.cellsOf 9)) = some y2 := hf 2 _ rfl
    rw [c2] at h2
    obtain ⟨a2, k2, g2⟩ := (opens_string Try.underlying9) n _ y2 h2 (fun q hq => hw q (by simp only [DataW.weights, Try.underlying80]; exact DataW.weights_mem_each (j := 2) rfl rfl q hq))
    have e2 : (cs.drop 2).take 1 = cs.drop 2 := List.take_of_length_le (by rw [List.length_drop]; omega)
    rw [e2] at k2
    have K2 := k2
    have K1 : (Kd.pair (Kd.int .i64) Kd.string).K W (a1, a2) (cs.drop 1) := ⟨(cs.drop 1).take 1, cs.drop 2, by rw [show 2 = 1 + 1 from rfl, ← List.drop_drop]; exact (List.take_append_drop _ _).symm, k1, K2⟩
    have K0 : (Kd.pair (Kd.int .i64) (Kd.pair (Kd.int .i64) Kd.string)).K W (a0, a1, a2) (cs.drop 0) := ⟨(cs.drop 0).take 1, cs.drop 1, by rw [show 1 = 0 + 1 from rfl, ← List.drop_drop]; exact (List.take_append_drop _ _).symm, k0, K1⟩
    rw [List.drop_zero] at K0
    exact ⟨⟨a0, a1, a2⟩, K0, ⟨g0, g1, g2⟩⟩
def G98 (x : S98) : Prop := x.f0.size ≤ 140737488351232 ∧ G80 x.f1
set_option maxRecDepth 100000 in
theorem open_T98 {H : Type} {enc : TypeId × Value → H} {W : World} : Opens enc Try.prog W 98 (k98.K W) G98 := by
  intro fuel cs x h hw
  obtain ⟨xs, n, _, rfl, hlen, hxl, hf⟩ := DataW.trod_struct Try.underlying98 h
  have hL : Try.prog.cellsOf 98 = 4 := by kernel_rfl
  rw [hL] at hlen
  match xs, hxl with
  | [y0, y1], _ =>
    have c0 : Try.prog.cellsOf 9 = 1 := by kernel_rfl
    have h0 : DataW.trod enc Try.prog W 0 (fun _ => true) true n 9 ((cs.drop 0).take (Try.prog.cellsOf 9)) = some y0 := hf 0 _ rfl
    rw [c0] at h0
    obtain ⟨a0, k0, g0⟩ := (opens_string Try.underlying9) n _ y0 h0 (fun q hq => hw q (by simp only [DataW.weights, Try.underlying98]; exact DataW.weights_mem_each (j := 0) rfl rfl q hq))
    have c1 : Try.prog.cellsOf 80 = 3 := by kernel_rfl
    have h1 : DataW.trod enc Try.prog W 0 (fun _ => true) true n 80 ((cs.drop 1).take (Try.prog.cellsOf 80)) = some y1 := hf 1 _ rfl
    rw [c1] at h1
    obtain ⟨a1, k1, g1⟩ := open_T80 n _ y1 h1 (fun q hq => hw q (by simp only [DataW.weights, Try.underlying98]; exact DataW.weights_mem_each (j := 1) rfl rfl q hq))
    have e1 : (cs.drop 1).take 3 = cs.drop 1 := List.take_of_length_le (by rw [List.length_drop]; omega)
    rw [e1] at k1
    have K1 := k1
    have K0 : (Kd.pair Kd.string k80).K W (a0, a1) (cs.drop 0) := ⟨(cs.drop 0).take 1, cs.drop 1, by rw [show 1 = 0 + 1 from rfl, ← List.drop_drop]; exact (List.take_append_drop _ _).symm, k0, K1⟩
    rw [List.drop_zero] at K0
    exact ⟨⟨a0, a1⟩, K0, ⟨g0, g1⟩⟩
def G25 (x : S25) : Prop := x.f0.size ≤ 140737488351232 ∧ (x.f1.length * 16 ≤ 140737488351232 ∧ ∀ y ∈ x.f1, y.size ≤ 140737488351232) ∧ (x.f2.length * 48 ≤ 140737488351232 ∧ ∀ y ∈ x.f2, G98 y)
set_option maxRecDepth 100000 in
theorem open_T25 {H : Type} {enc : TypeId × Value → H} {W : World} : Opens enc Try.prog W 25 (k25.K W) G25 := by
  intro fuel cs x h hw
  obtain ⟨xs, n, _, rfl, hlen, hxl, hf⟩ := DataW.trod_struct Try.underlying25 h
  have hL : Try.prog.cellsOf 25 = 3 := by kernel_rfl
  rw [hL] at hlen
  match xs, hxl with
  | [y0, y1, y2], _ =>
    have c0 : Try.prog.cellsOf 9 = 1 := by kernel_rfl
    have h0 : DataW.trod enc Try.prog W 0 (fun _ => true) true n 9 ((cs.drop 0).take (Try.prog.cellsOf 9)) = some y0 := hf 0 _ rfl
    rw [c0] at h0
    obtain ⟨a0, k0, g0⟩ := (opens_string Try.underlying9) n _ y0 h0 (fun q hq => hw q (by simp only [DataW.weights, Try.underlying25]; exact DataW.weights_mem_each (j := 0) rfl rfl q hq))
    have c1 : Try.prog.cellsOf 22 = 1 := by kernel_rfl
    have h1 : DataW.trod enc Try.prog W 0 (fun _ => true) true n 22 ((cs.drop 1).take (Try.prog.cellsOf 22)) = some y1 := hf 1 _ rfl
    rw [c1] at h1
    obtain ⟨a1, k1, g1⟩ := (opens_slice (e := 9) (d := Kd.string) (B := 16) Try.underlying22 (by kernel_rfl) (by kernel_rfl) (opens_string Try.underlying9)) n _ y1 h1 (fun q hq => hw q (by simp only [DataW.weights, Try.underlying25]; exact DataW.weights_mem_each (j := 1) rfl rfl q hq))
    have c2 : Try.prog.cellsOf 23 = 1 := by kernel_rfl
    have h2 : DataW.trod enc Try.prog W 0 (fun _ => true) true n 23 ((cs.drop 2).take (Try.prog.cellsOf 23)) = some y2 := hf 2 _ rfl
    rw [c2] at h2
    obtain ⟨a2, k2, g2⟩ := (opens_slice (e := 98) (d := k98) (B := 48) Try.underlying23 (by kernel_rfl) (by kernel_rfl) open_T98) n _ y2 h2 (fun q hq => hw q (by simp only [DataW.weights, Try.underlying25]; exact DataW.weights_mem_each (j := 2) rfl rfl q hq))
    have e2 : (cs.drop 2).take 1 = cs.drop 2 := List.take_of_length_le (by rw [List.length_drop]; omega)
    rw [e2] at k2
    have K2 := k2
    have K1 : (Kd.pair (Kd.slice 9 Kd.string) (Kd.slice 98 k98)).K W (a1, a2) (cs.drop 1) := ⟨(cs.drop 1).take 1, cs.drop 2, by rw [show 2 = 1 + 1 from rfl, ← List.drop_drop]; exact (List.take_append_drop _ _).symm, k1, K2⟩
    have K0 : (Kd.pair Kd.string (Kd.pair (Kd.slice 9 Kd.string) (Kd.slice 98 k98))).K W (a0, a1, a2) (cs.drop 0) := ⟨(cs.drop 0).take 1, cs.drop 1, by rw [show 1 = 0 + 1 from rfl, ← List.drop_drop]; exact (List.take_append_drop _ _).symm, k0, K1⟩
    rw [List.drop_zero] at K0
    exact ⟨⟨a0, a1, a2⟩, K0, ⟨g0, g1, g2⟩⟩
def G38 (x : S38) : Prop := x.f0.size ≤ 140737488351232 ∧ x.f1.size ≤ 140737488351232 ∧ x.f2.size ≤ 140737488351232 ∧ (x.f3.length * 16 ≤ 140737488351232 ∧ ∀ y ∈ x.f3, y.size ≤ 140737488351232) ∧ (x.f4.length * 48 ≤ 140737488351232 ∧ ∀ y ∈ x.f4, G98 y)
set_option maxRecDepth 100000 in
theorem open_T38 {H : Type} {enc : TypeId × Value → H} {W : World} : Opens enc Try.prog W 38 (k38.K W) G38 := by
  intro fuel cs x h hw
  obtain ⟨xs, n, _, rfl, hlen, hxl, hf⟩ := DataW.trod_struct Try.underlying38 h
  have hL : Try.prog.cellsOf 38 = 5 := by kernel_rfl
  rw [hL] at hlen
  match xs, hxl with
  | [y0, y1, y2, y3, y4], _ =>
    have c0 : Try.prog.cellsOf 9 = 1 := by kernel_rfl
    have h0 : DataW.trod enc Try.prog W 0 (fun _ => true) true n 9 ((cs.drop 0).take (Try.prog.cellsOf 9)) = some y0 := hf 0 _ rfl
    rw [c0] at h0
    obtain ⟨a0, k0, g0⟩ := (opens_string Try.underlying9) n _ y0 h0 (fun q hq => hw q (by simp only [DataW.weights, Try.underlying38]; exact DataW.weights_mem_each (j := 0) rfl rfl q hq))
    have c1 : Try.prog.cellsOf 9 = 1 := by kernel_rfl
    have h1 : DataW.trod enc Try.prog W 0 (fun _ => true) true n 9 ((cs.drop 1).take (Try.prog.cellsOf 9)) = some y1 := hf 1 _ rfl
    rw [c1] at h1
    obtain ⟨a1, k1, g1⟩ := (opens_string Try.underlying9) n _ y1 h1 (fun q hq => hw q (by simp only [DataW.weights, Try.underlying38]; exact DataW.weights_mem_each (j := 1) rfl rfl q hq))
    have c2 : Try.prog.cellsOf 9 = 1 := by kernel_rfl
    have h2 : DataW.trod enc Try.prog W 0 (fun _ => true) true n 9 ((cs.drop 2).take (Try.prog.cellsOf 9)) = some y2 := hf 2 _ rfl
    rw [c2] at h2
    obtain ⟨a2, k2, g2⟩ := (opens_string Try.underlying9) n _ y2 h2 (fun q hq => hw q (by simp only [DataW.weights, Try.underlying38]; exact DataW.weights_mem_each (j := 2) rfl rfl q hq))
    have c3 : Try.prog.cellsOf 22 = 1 := by kernel_rfl
    have h3 : DataW.trod enc Try.prog W 0 (fun _ => true) true n 22 ((cs.drop 3).take (Try.prog.cellsOf 22)) = some y3 := hf 3 _ rfl
    rw [c3] at h3
    obtain ⟨a3, k3, g3⟩ := (opens_slice (e := 9) (d := Kd.string) (B := 16) Try.underlying22 (by kernel_rfl) (by kernel_rfl) (opens_string Try.underlying9)) n _ y3 h3 (fun q hq => hw q (by simp only [DataW.weights, Try.underlying38]; exact DataW.weights_mem_each (j := 3) rfl rfl q hq))
    have c4 : Try.prog.cellsOf 23 = 1 := by kernel_rfl
    have h4 : DataW.trod enc Try.prog W 0 (fun _ => true) true n 23 ((cs.drop 4).take (Try.prog.cellsOf 23)) = some y4 := hf 4 _ rfl
    rw [c4] at h4
    obtain ⟨a4, k4, g4⟩ := (opens_slice (e := 98) (d := k98) (B := 48) Try.underlying23 (by kernel_rfl) (by kernel_rfl) open_T98) n _ y4 h4 (fun q hq => hw q (by simp only [DataW.weights, Try.underlying38]; exact DataW.weights_mem_each (j := 4) rfl rfl q hq))
    have e4 : (cs.drop 4).take 1 = cs.drop 4 := List.take_of_length_le (by rw [List.length_drop]; omega)
    rw [e4] at k4
    have K4 := k4
    have K3 : (Kd.pair (Kd.slice 9 Kd.string) (Kd.slice 98 k98)).K W (a3, a4) (cs.drop 3) := ⟨(cs.drop 3).take 1, cs.drop 4, by rw [show 4 = 3 + 1 from rfl, ← List.drop_drop]; exact (List.take_append_drop _ _).symm, k3, K4⟩
    have K2 : (Kd.pair Kd.string (Kd.pair (Kd.slice 9 Kd.string) (Kd.slice 98 k98))).K W (a2, a3, a4) (cs.drop 2) := ⟨(cs.drop 2).take 1, cs.drop 3, by rw [show 3 = 2 + 1 from rfl, ← List.drop_drop]; exact (List.take_append_drop _ _).symm, k2, K3⟩
    have K1 : (Kd.pair Kd.string (Kd.pair Kd.string (Kd.pair (Kd.slice 9 Kd.string) (Kd.slice 98 k98)))).K W (a1, a2, a3, a4) (cs.drop 1) := ⟨(cs.drop 1).take 1, cs.drop 2, by rw [show 2 = 1 + 1 from rfl, ← List.drop_drop]; exact (List.take_append_drop _ _).symm, k1, K2⟩
    have K0 : (Kd.pair Kd.string (Kd.pair Kd.string (Kd.pair Kd.string (Kd.pair (Kd.slice 9 Kd.string) (Kd.slice 98 k98))))).K W (a0, a1, a2, a3, a4) (cs.drop 0) := ⟨(cs.drop 0).take 1, cs.drop 1, by rw [show 1 = 0 + 1 from rfl, ← List.drop_drop]; exact (List.take_append_drop _ _).symm, k0, K1⟩
    rw [List.drop_zero] at K0
    exact ⟨⟨a0, a1, a2, a3, a4⟩, K0, ⟨g0, g1, g2, g3, g4⟩⟩
end Go.Proofs.Ytmnadajjgnniaaa.MA
end
section
namespace Go.Proofs.Ytmnadajjgnniaaa.MA
open Go.RowKit Go.Proofs.YtmnadajjgnniaaaW.PrintWords Go.Proofs.YtmnadajjgnniaaaW.PrintLast Go.Proofs.YtmnadajjgnniaaaW.PrintMore
attribute [local go_sem] max2_int min2_int max_two min_two max_three min_three max_four min_four   -- for this text's walks alone
set_option linter.unusedVariables false
set_option linter.unusedSimpArgs false

def name_fits.f (a0 : Int) : Option (Bool) := if a0 ≥ 97 then (if a0 ≤ 122 then (some true) else (if a0 ≥ 48 then (if a0 ≤ 57 then (some true) else (some (a0 == 45))) else (some (a0 == 45)))) else (if a0 ≥ 48 then (if a0 ≤ 57 then (some true) else (some (a0 == 45))) else (some (a0 == 45)))
set_option maxHeartbeats 8000000 in
set_option maxRecDepth 100000 in
theorem name_fits.calls (a0 : Int) (r : Bool) (w : World) (h : name_fits.f a0 = some r) :
    Calls Try.prog 84 #[.int .u8 a0] w fun e w' => e = .returned (.bool r) ∧ Drawn0 w w' := by
  have H : (if a0 ≥ 97 then (if a0 ≤ 122 then (some true) else (if a0 ≥ 48 then (if a0 ≤ 57 then (some true) else (some (a0 == 45))) else (some (a0 == 45)))) else (if a0 ≥ 48 then (if a0 ≤ 57 then (some true) else (some (a0 == 45))) else (some (a0 == 45)))) = some r := h
  clear h
  by_cases c2 : a0 ≥ 97
  · rw [if_pos c2] at H
    have c2b0 : decide (97 ≤ a0) = true := decide_eq_true c2
    clear c2
    by_cases c3 : a0 ≤ 122
    · rw [if_pos c3] at H
      have c3b0 : decide (a0 ≤ 122) = true := decide_eq_true c3
      clear c3
      obtain rfl := Option.some.inj H
      go_enter Try.func84, Try.ntmps84
      go_wp2
      go_ret
      exact ⟨by first | rfl | (simp; done) | (simp [*]; done), by repeat (first | exact Drawn0.refl _ | apply Drawn0.step)⟩
    · rw [if_neg c3] at H
      have c3b0 : decide (a0 ≤ 122) = false := decide_eq_false c3
      clear c3
      by_cases c4 : a0 ≥ 48
      · rw [if_pos c4] at H
        have c4b0 : decide (48 ≤ a0) = true := decide_eq_true c4
        clear c4
        by_cases c5 : a0 ≤ 57
        · rw [if_pos c5] at H
          have c5b0 : decide (a0 ≤ 57) = true := decide_eq_true c5
          clear c5
          obtain rfl := Option.some.inj H
          go_enter Try.func84, Try.ntmps84
          go_wp2
          go_ret
          exact ⟨by first | rfl | (simp; done) | (simp [*]; done), by repeat (first | exact Drawn0.refl _ | apply Drawn0.step)⟩
        · rw [if_neg c5] at H
          have c5b0 : decide (a0 ≤ 57) = false := decide_eq_false c5
          clear c5
          obtain rfl := Option.some.inj H
          go_enter Try.func84, Try.ntmps84
          go_wp2
          go_ret
          exact ⟨by first | rfl | (simp; done) | (simp [*]; done), by repeat (first | exact Drawn0.refl _ | apply Drawn0.step)⟩
      · rw [if_neg c4] at H
        have c4b0 : decide (48 ≤ a0) = false := decide_eq_false c4
        clear c4
        obtain rfl := Option.some.inj H
        go_enter Try.func84, Try.ntmps84
        go_wp2
        go_ret
        exact ⟨by first | rfl | (simp; done) | (simp [*]; done), by repeat (first | exact Drawn0.refl _ | apply Drawn0.step)⟩
  · rw [if_neg c2] at H
    have c2b0 : decide (97 ≤ a0) = false := decide_eq_false c2
    clear c2
    by_cases c6 : a0 ≥ 48
    · rw [if_pos c6] at H
      have c6b0 : decide (48 ≤ a0) = true := decide_eq_true c6
      clear c6
      by_cases c7 : a0 ≤ 57
      · rw [if_pos c7] at H
        have c7b0 : decide (a0 ≤ 57) = true := decide_eq_true c7
        clear c7
        obtain rfl := Option.some.inj H
        go_enter Try.func84, Try.ntmps84
        go_wp2
        go_ret
        exact ⟨by first | rfl | (simp; done) | (simp [*]; done), by repeat (first | exact Drawn0.refl _ | apply Drawn0.step)⟩
      · rw [if_neg c7] at H
        have c7b0 : decide (a0 ≤ 57) = false := decide_eq_false c7
        clear c7
        obtain rfl := Option.some.inj H
        go_enter Try.func84, Try.ntmps84
        go_wp2
        go_ret
        exact ⟨by first | rfl | (simp; done) | (simp [*]; done), by repeat (first | exact Drawn0.refl _ | apply Drawn0.step)⟩
    · rw [if_neg c6] at H
      have c6b0 : decide (48 ≤ a0) = false := decide_eq_false c6
      clear c6
      obtain rfl := Option.some.inj H
      go_enter Try.func84, Try.ntmps84
      go_wp2
      go_ret
      exact ⟨by first | rfl | (simp; done) | (simp [*]; done), by repeat (first | exact Drawn0.refl _ | apply Drawn0.step)⟩

end Go.Proofs.Ytmnadajjgnniaaa.MA
end
section
namespace Go.Proofs.Ytmnadajjgnniaaa.MA
open Go.RowKit Go.Proofs.YtmnadajjgnniaaaW.PrintWords Go.Proofs.YtmnadajjgnniaaaW.PrintLast Go.Proofs.YtmnadajjgnniaaaW.PrintMore
attribute [local go_sem] max2_int min2_int max_two min_two max_three min_three max_four min_four   -- for this text's walks alone
set_option linter.unusedVariables false
set_option linter.unusedSimpArgs false

mutual
def name_Check.j0 : Nat → ByteArray → Bool → Option (Int)
  | 0, _, _ => none
  | k + 1, x0, x10 => if x10 = true then (some 2) else (name_Check.l0 k x0 (x0.size : Int) 0)
def name_Check.l0 : Nat → ByteArray → Int → Int → Option (Int)
  | 0, _, _, _ => none
  | k + 1, x0, x12, x13 => if x13 < x12 then (if 0 ≤ x13 then (if x13 < (x0.size : Int) then ((name_fits.f (bt x0 x13)).bind fun t101 => (if t101 = true then (name_Check.l0 k x0 x12 (wrap64 (x13 + 1))) else (some 2))) else (none)) else (none)) else (some 0)
end
def name_Check.f (k : Nat) (a0 : ByteArray) : Option (Int) := if a0.toList = ([] : List UInt8) then (name_Check.j0 k a0 true) else (name_Check.j0 k a0 (decide ((a0.size : Int) > 12)))
theorem name_Check.mono_l : ∀ k, (∀ y0 y1, LeO (name_Check.j0 k y0 y1) (name_Check.j0 (k + 1) y0 y1)) ∧ (∀ y0 y1 y2, LeO (name_Check.l0 k y0 y1 y2) (name_Check.l0 (k + 1) y0 y1 y2))
  | 0 => ⟨fun _ _ r h => by simp [name_Check.j0] at h, fun _ _ _ r h => by simp [name_Check.l0] at h⟩
  | k + 1 => by
    obtain ⟨ih0, ih1⟩ := name_Check.mono_l k
    refine ⟨?_, ?_⟩
    · intro y0 y1
      unfold name_Check.j0
      repeat' first
      | (with_reducible exact ih0 _ _)
      | (with_reducible exact ih1 _ _ _)
      | (with_reducible exact LeO.refl _)
      | (with_reducible exact LeO.none _)
      | (with_reducible refine LeO.ite ?_ ?_)
      | (with_reducible refine LeO.bind ?_ (fun _ => ?_))
      | exact ih0 _ _
      | exact ih1 _ _ _
      | exact LeO.none _
      | refine LeO.ite ?_ ?_
      | refine LeO.bind ?_ (fun _ => ?_)
    · intro y0 y1 y2
      unfold name_Check.l0
      repeat' first
      | (with_reducible exact ih0 _ _)
      | (with_reducible exact ih1 _ _ _)
      | (with_reducible exact LeO.refl _)
      | (with_reducible exact LeO.none _)
      | (with_reducible refine LeO.ite ?_ ?_)
      | (with_reducible refine LeO.bind ?_ (fun _ => ?_))
      | exact ih0 _ _
      | exact ih1 _ _ _
      | exact LeO.none _
      | refine LeO.ite ?_ ?_
      | refine LeO.bind ?_ (fun _ => ?_)
theorem name_Check.mono : ∀ a0 k, LeO (name_Check.f k a0) (name_Check.f (k + 1) a0) := by
  intro a0 k
  obtain ⟨ih0, ih1⟩ := name_Check.mono_l k
  unfold name_Check.f
  repeat' first
      | (with_reducible exact ih0 _ _)
      | (with_reducible exact ih1 _ _ _)
      | (with_reducible exact LeO.refl _)
      | (with_reducible exact LeO.none _)
      | (with_reducible refine LeO.ite ?_ ?_)
      | (with_reducible refine LeO.bind ?_ (fun _ => ?_))
      | exact ih0 _ _
      | exact ih1 _ _ _
      | exact LeO.none _
      | refine LeO.ite ?_ ?_
      | refine LeO.bind ?_ (fun _ => ?_)
set_option maxHeartbeats 8000000 in
set_option maxRecDepth 100000 in
theorem name_Check.calls (k : Nat) (a0 : ByteArray) (r : Int) (w : World) (h : name_Check.f k a0 = some r) :
    Calls Try.prog 56 #[.string a0] w fun e w' => e = .returned (.int .i64 r) ∧ Drawn0 w w' := by
  have H : (if a0.toList = ([] : List UInt8) then (name_Check.j0 k a0 true) else (name_Check.j0 k a0 (decide ((a0.size : Int) > 12)))) = some r := h
  clear h
  have HC2 := Aside0.mk H
  clear H
  go_enter Try.func56, Try.ntmps56
  go_upto_region 1 with (fail)
  go_cut [10] (fun v10 wc => ∃ (kq : Nat) (x10_1 : Bool), v10 = .bool x10_1 ∧ Aside0 (name_Check.j0 kq a0 x10_1 = some r) ∧ Aside0 (kq ≤ k) ∧ Drawn0 w wc)
  case first =>
    have H := HC2.out
    clear HC2
    by_cases c3 : a0.toList = ([] : List UInt8)
    · rw [if_pos c3] at H
      have c3b0 : (a0.toList == ([] : List UInt8)) = true := beq_iff_eq.mpr c3
      have c3b1 : (a0.toList != ([] : List UInt8)) = false := bne_eq_false_iff_eq.mpr c3
      clear c3
      (first | rw [c3b0] | (simp only [i64_w, i32_w]; rw [c3b0]) | skip)
      have H' := Aside0.mk H
      clear H
      go_wp2
      go_meet
      case rel => exact ⟨_, (true), (by first | rfl | (simp; done) | (simp [*]; done)), H', ⟨by first | omega | exact Nat.le_refl _⟩, by repeat (first | exact Drawn0.refl _ | apply Drawn0.step)⟩
    · rw [if_neg c3] at H
      have c3b0 : (a0.toList == ([] : List UInt8)) = false := beq_eq_false_iff_ne.mpr c3
      have c3b1 : (a0.toList != ([] : List UInt8)) = true := bne_iff_ne.mpr c3
      (first | rw [c3b0] | (simp only [i64_w, i32_w]; rw [c3b0]) | skip)
      have H' := Aside0.mk H
      clear H
      go_wp2
      go_meet
      case rel => exact ⟨_, (decide ((a0.size : Int) > 12)), (by first | rfl | (simp; done) | (simp [*]; done)), H', ⟨by first | omega | exact Nat.le_refl _⟩, by repeat (first | exact Drawn0.refl _ | apply Drawn0.step)⟩
  case rest =>
    clear HC2
    try clear p2
    try clear c3
    try clear c3b0
    try clear c3b1
    obtain ⟨kq, x10_1, rfl, HA, HJ1, ⟨mc1, rfl⟩⟩ := hcut
    cases kq with
    | zero => exact absurd HA.out (by simp [name_Check.j0])
    | succ kj1 =>
      have H := HA.out
      clear HA
      simp only [name_Check.j0] at H
      by_cases c4 : x10_1 = true
      · subst c4
        have H1 : (some 2) = some r := by rw [if_pos rfl] at H; exact H
        clear H
        have H := H1
        clear H1
        obtain rfl := Option.some.inj H
        go_wp2
        go_ret
        exact ⟨by first | rfl | (simp; done) | (simp [*]; done), by repeat (first | exact Drawn0.refl _ | apply Drawn0.step)⟩
      · replace c4 := Bool.eq_false_iff.mpr c4
        subst c4
        have H1 : (name_Check.l0 kj1 a0 (a0.size : Int) 0) = some r := by rw [if_neg (show ¬ (false = true) by decide)] at H; exact H
        clear H
        have H := H1
        clear H1
        have H' := Aside0.mk H
        clear H
        go_wp2
        go_loopg [13] kj1 (fun kq v13 w' => ∃ (x13_2 : Int), v13 = .int .i64 x13_2 ∧ Aside0 (name_Check.l0 kq a0 (a0.size : Int) x13_2 = some r) ∧ Aside0 (kq ≤ kj1) ∧ Drawn0 w w')
        case atStart => exact ⟨(0), (by first | rfl | (simp; done) | (simp [*]; done)), H', ⟨Nat.le_refl _⟩, by repeat (first | exact Drawn0.refl _ | apply Drawn0.step)⟩
        case round =>
          clear H'
          try clear c1
          try clear p2
          try clear c3
          try clear c3b0
          try clear c3b1
          try clear c4
          try clear p2
          obtain ⟨x13_2, rfl, HA, HK2, ⟨m2, rfl⟩⟩ := hrel
          cases gk with
          | zero => exact absurd HA.out (by simp [name_Check.l0])
          | succ k2 =>
            have H := HA.out
            clear HA
            simp only [name_Check.l0] at H
            by_cases c5 : x13_2 < (a0.size : Int)
            · rw [if_pos c5] at H
              have c5b0 : decide (x13_2 < (a0.size : Int)) = true := decide_eq_true c5
              clear c5
              by_cases c6 : 0 ≤ x13_2
              · rw [if_pos c6] at H
                have c6b0 : decide (0 ≤ x13_2) = true := decide_eq_true c6
                clear c6
                by_cases c7 : x13_2 < (a0.size : Int)
                · rw [if_pos c7] at H
                  have c7b0 : decide (x13_2 < (a0.size : Int)) = true := decide_eq_true c7
                  clear c7
                  replace H := Option.bind_eq_some_iff.mp H
                  obtain ⟨t101, A90, H⟩ := H
                  replace H : (if t101 = true then (name_Check.l0 k2 a0 (a0.size : Int) (wrap64 (x13_2 + 1))) else (some 2)) = some r := H
                  have A9 := Aside0.mk A90
                  clear A90
                  by_cases c10 : t101 = true
                  · subst c10
                    have H1 : (name_Check.l0 k2 a0 (a0.size : Int) (wrap64 (x13_2 + 1))) = some r := by rw [if_pos rfl] at H; exact H
                    clear H
                    have H := H1
                    clear H1
                    have H' := Aside0.mk H
                    clear H
                    have p8 : 0 ≤ (x13_2 : Int) := of_decide_eq_true (by first | (with_reducible assumption) | assumption)
                    have q8 : x13_2 < (a0.size : Int) := of_decide_eq_true (by first | (with_reducible assumption) | assumption)
                    have hx8 := bt_at a0 x13_2
                    replace p8 := eq_true p8
                    replace q8 := eq_true q8
                    go_wp2_with (first | ((with_reducible refine gate_callee (f := 84) rfl ?_); refine goesL_ (some 19) rfl rfl Try.func84 (by kernel_rfl) rfl #[.int .u8 (bt a0 x13_2)] rfl (by (try simp only [List.map_toArray, List.map_cons, List.map_nil]); first | done | rfl | (simp only [List.length_drop, List.length_take]; rfl)) ?_; (with_reducible refine (name_fits.calls (bt a0 x13_2) true _ A9.out).mono ?_); rintro e w' ⟨rfl, ⟨nd, rfl⟩⟩; refine ⟨_, rfl, ?_⟩))
                    go_roundg k2
                    case measure => have := HJ1.out; have := HK2.out; omega
                    case rel => exact ⟨(wrap64 (x13_2 + 1)), (by first | rfl | (simp; done) | (simp [*]; done)), H', ⟨by have := HJ1.out; have := HK2.out; omega⟩, by repeat (first | exact Drawn0.refl _ | apply Drawn0.step)⟩
                  · replace c10 := Bool.eq_false_iff.mpr c10
                    subst c10
                    have H1 : (some 2) = some r := by rw [if_neg (show ¬ (false = true) by decide)] at H; exact H
                    clear H
                    have H := H1
                    clear H1
                    obtain rfl := Option.some.inj H
                    have p8 : 0 ≤ (x13_2 : Int) := of_decide_eq_true (by first | (with_reducible assumption) | assumption)
                    have q8 : x13_2 < (a0.size : Int) := of_decide_eq_true (by first | (with_reducible assumption) | assumption)
                    have hx8 := bt_at a0 x13_2
                    replace p8 := eq_true p8
                    replace q8 := eq_true q8
                    go_wp2_with (first | ((with_reducible refine gate_callee (f := 84) rfl ?_); refine goesL_ (some 19) rfl rfl Try.func84 (by kernel_rfl) rfl #[.int .u8 (bt a0 x13_2)] rfl (by (try simp only [List.map_toArray, List.map_cons, List.map_nil]); first | done | rfl | (simp only [List.length_drop, List.length_take]; rfl)) ?_; (with_reducible refine (name_fits.calls (bt a0 x13_2) false _ A9.out).mono ?_); rintro e w' ⟨rfl, ⟨nd, rfl⟩⟩; refine ⟨_, rfl, ?_⟩))
                    go_ret
                    exact ⟨by first | rfl | (simp; done) | (simp [*]; done), by repeat (first | exact Drawn0.refl _ | apply Drawn0.step)⟩
                · rw [if_neg c7] at H
                  exact absurd H (by simp)
              · rw [if_neg c6] at H
                exact absurd H (by simp)
            · rw [if_neg c5] at H
              have c5b0 : decide (x13_2 < (a0.size : Int)) = false := decide_eq_false c5
              clear c5
              obtain rfl := Option.some.inj H
              go_wp2
              go_ret
              exact ⟨by first | rfl | (simp; done) | (simp [*]; done), by repeat (first | exact Drawn0.refl _ | apply Drawn0.step)⟩

end Go.Proofs.Ytmnadajjgnniaaa.MA
end
section
namespace Go.Proofs.Ytmnadajjgnniaaa.MA
open Go.RowKit Go.Proofs.YtmnadajjgnniaaaW.PrintWords Go.Proofs.YtmnadajjgnniaaaW.PrintLast Go.Proofs.YtmnadajjgnniaaaW.PrintMore
attribute [local go_sem] max2_int min2_int max_two min_two max_three min_three max_four min_four   -- for this text's walks alone
set_option linter.unusedVariables false
set_option linter.unusedSimpArgs false

def keys_Of.f (k : Nat) (a0 : ByteArray) (a1 : ByteArray) : Option (ByteArray × Int) := (name_Check.f k a0).bind fun t101 => (if t101 = 0 then ((name_Check.f k a1).bind fun t102 => (if t102 = 0 then (if a0.size + 1 ≤ 9223372036854775807 then (if a0.size + 1 + a1.size ≤ 9223372036854775807 then (some ((a0 ++ (⟨#[0]⟩ : ByteArray)) ++ a1, 0)) else (none)) else (none)) else (some ((⟨#[]⟩ : ByteArray), 2)))) else (some ((⟨#[]⟩ : ByteArray), 2)))
theorem keys_Of.mono : ∀ a0 a1 k, LeO (keys_Of.f k a0 a1) (keys_Of.f (k + 1) a0 a1) := by
  intro a0 a1 k
  unfold keys_Of.f
  repeat' first
      | (with_reducible exact name_Check.mono _ _)
      | (with_reducible exact LeO.refl _)
      | (with_reducible exact LeO.none _)
      | (with_reducible refine LeO.ite ?_ ?_)
      | (with_reducible refine LeO.bind ?_ (fun _ => ?_))
      | exact name_Check.mono _ _
      | exact LeO.none _
      | refine LeO.ite ?_ ?_
      | refine LeO.bind ?_ (fun _ => ?_)
set_option maxHeartbeats 8000000 in
set_option maxRecDepth 100000 in
theorem keys_Of.calls (k : Nat) (a0 : ByteArray) (a1 : ByteArray) (r1 : ByteArray) (r2 : Int) (w : World) (h : keys_Of.f k a0 a1 = some (r1, r2)) :
    Calls Try.prog 23 #[.string a0, .string a1] w fun e w' => e = .returned (.tuple #[.string r1, .int .i64 r2]) ∧ Drawn0 w w' := by
  have H : ((name_Check.f k a0).bind fun t101 => (if t101 = 0 then ((name_Check.f k a1).bind fun t102 => (if t102 = 0 then (if a0.size + 1 ≤ 9223372036854775807 then (if a0.size + 1 + a1.size ≤ 9223372036854775807 then (some ((a0 ++ (⟨#[0]⟩ : ByteArray)) ++ a1, 0)) else (none)) else (none)) else (some ((⟨#[]⟩ : ByteArray), 2)))) else (some ((⟨#[]⟩ : ByteArray), 2)))) = some (r1, r2) := h
  clear h
  replace H := Option.bind_eq_some_iff.mp H
  obtain ⟨t101, A30, H⟩ := H
  replace H : (if t101 = 0 then ((name_Check.f k a1).bind fun t102 => (if t102 = 0 then (if a0.size + 1 ≤ 9223372036854775807 then (if a0.size + 1 + a1.size ≤ 9223372036854775807 then (some ((a0 ++ (⟨#[0]⟩ : ByteArray)) ++ a1, 0)) else (none)) else (none)) else (some ((⟨#[]⟩ : ByteArray), 2)))) else (some ((⟨#[]⟩ : ByteArray), 2))) = some (r1, r2) := H
  have A3 := Aside0.mk A30
  clear A30
  by_cases c4 : t101 = 0
  · rw [if_pos c4] at H
    have c4b0 : (t101 == 0) = true := beq_iff_eq.mpr c4
    have c4b1 : (t101 != 0) = false := bne_eq_false_iff_eq.mpr c4
    clear c4
    replace H := Option.bind_eq_some_iff.mp H
    obtain ⟨t102, A50, H⟩ := H
    replace H : (if t102 = 0 then (if a0.size + 1 ≤ 9223372036854775807 then (if a0.size + 1 + a1.size ≤ 9223372036854775807 then (some ((a0 ++ (⟨#[0]⟩ : ByteArray)) ++ a1, 0)) else (none)) else (none)) else (some ((⟨#[]⟩ : ByteArray), 2))) = some (r1, r2) := H
    have A5 := Aside0.mk A50
    clear A50
    by_cases c6 : t102 = 0
    · rw [if_pos c6] at H
      have c6b0 : (t102 == 0) = true := beq_iff_eq.mpr c6
      have c6b1 : (t102 != 0) = false := bne_eq_false_iff_eq.mpr c6
      clear c6
      by_cases c7 : a0.size + 1 ≤ 9223372036854775807
      · rw [if_pos c7] at H
        have c7b0 := eq_true c7
        have c7b1 : decide (a0.size + 1 ≤ 9223372036854775807) = true := decide_eq_true c7
        try have c7b2 : (9223372036854775807 < a0.size + 1) = False := eq_false (Nat.not_lt.2 c7)
        by_cases c8 : a0.size + 1 + a1.size ≤ 9223372036854775807
        · rw [if_pos c8] at H
          have c8b0 := eq_true c8
          have c8b1 : decide (a0.size + 1 + a1.size ≤ 9223372036854775807) = true := decide_eq_true c8
          try have c8b2 : (9223372036854775807 < a0.size + 1 + a1.size) = False := eq_false (Nat.not_lt.2 c8)
          simp only [Option.some.injEq, Prod.mk.injEq] at H
          obtain ⟨rfl, rfl⟩ := H
          go_enter Try.func23, Try.ntmps23
          go_wp2_with (first | ((with_reducible refine gate_callee (f := 56) rfl ?_); refine goesL_ (some 7) rfl rfl Try.func56 (by kernel_rfl) rfl #[.string a0] rfl (by (try simp only [List.map_toArray, List.map_cons, List.map_nil]); first | done | rfl | (simp only [List.length_drop, List.length_take]; rfl)) ?_; (with_reducible refine (name_Check.calls k a0 t101 _ A3.out).mono ?_); rintro e w' ⟨rfl, ⟨nd, rfl⟩⟩; refine ⟨_, rfl, ?_⟩) | (go_at_call 56; (with_reducible refine (name_Check.calls k a1 t102 _ A5.out).mono ?_); rintro e w' ⟨rfl, ⟨nd, rfl⟩⟩))
          go_ret2
          exact ⟨by first | rfl | (simp; done) | (simp [*]; done), by repeat (first | exact Drawn0.refl _ | apply Drawn0.step)⟩
        · rw [if_neg c8] at H
          exact absurd H (by simp)
      · rw [if_neg c7] at H
        exact absurd H (by simp)
    · rw [if_neg c6] at H
      have c6b0 : (t102 == 0) = false := beq_eq_false_iff_ne.mpr c6
      have c6b1 : (t102 != 0) = true := bne_iff_ne.mpr c6
      simp only [Option.some.injEq, Prod.mk.injEq] at H
      obtain ⟨rfl, rfl⟩ := H
      go_enter Try.func23, Try.ntmps23
      go_wp2_with (first | ((with_reducible refine gate_callee (f := 56) rfl ?_); refine goesL_ (some 7) rfl rfl Try.func56 (by kernel_rfl) rfl #[.string a0] rfl (by (try simp only [List.map_toArray, List.map_cons, List.map_nil]); first | done | rfl | (simp only [List.length_drop, List.length_take]; rfl)) ?_; (with_reducible refine (name_Check.calls k a0 t101 _ A3.out).mono ?_); rintro e w' ⟨rfl, ⟨nd, rfl⟩⟩; refine ⟨_, rfl, ?_⟩) | (go_at_call 56; (with_reducible refine (name_Check.calls k a1 t102 _ A5.out).mono ?_); rintro e w' ⟨rfl, ⟨nd, rfl⟩⟩))
      go_ret2
      exact ⟨by first | rfl | (simp; done) | (simp [*]; done), by repeat (first | exact Drawn0.refl _ | apply Drawn0.step)⟩
  · rw [if_neg c4] at H
    have c4b0 : (t101 == 0) = false := beq_eq_false_iff_ne.mpr c4
    have c4b1 : (t101 != 0) = true := bne_iff_ne.mpr c4
    simp only [Option.some.injEq, Prod.mk.injEq] at H
    obtain ⟨rfl, rfl⟩ := H
    go_enter Try.func23, Try.ntmps23
    go_wp2_with (first | ((with_reducible refine gate_callee (f := 56) rfl ?_); refine goesL_ (some 7) rfl rfl Try.func56 (by kernel_rfl) rfl #[.string a0] rfl (by (try simp only [List.map_toArray, List.map_cons, List.map_nil]); first | done | rfl | (simp only [List.length_drop, List.length_take]; rfl)) ?_; (with_reducible refine (name_Check.calls k a0 t101 _ A3.out).mono ?_); rintro e w' ⟨rfl, ⟨nd, rfl⟩⟩; refine ⟨_, rfl, ?_⟩))
    go_ret2
    exact ⟨by first | rfl | (simp; done) | (simp [*]; done), by repeat (first | exact Drawn0.refl _ | apply Drawn0.step)⟩

end Go.Proofs.Ytmnadajjgnniaaa.MA
end
section
namespace Go.Proofs.Ytmnadajjgnniaaa.MA
open Go.RowKit Go.Proofs.YtmnadajjgnniaaaW.PrintWords Go.Proofs.YtmnadajjgnniaaaW.PrintLast Go.Proofs.YtmnadajjgnniaaaW.PrintMore
attribute [local go_sem] max2_int min2_int max_two min_two max_three min_three max_four min_four   -- for this text's walks alone
set_option linter.unusedVariables false
set_option linter.unusedSimpArgs false

def pleachlaw31_awake.f (k : Nat)  : Option (Bool) := (keys_Of.f k (⟨#[97]⟩ : ByteArray) (⟨#[120]⟩ : ByteArray)).bind fun bt101 => (if bt101.1.toList = ([97, 0, 120] : List UInt8) then (some (bt101.2 == 0)) else (some false))
theorem pleachlaw31_awake.mono : ∀ k, LeO (pleachlaw31_awake.f k ) (pleachlaw31_awake.f (k + 1) ) := by
  intro  k
  unfold pleachlaw31_awake.f
  repeat' first
      | (with_reducible exact keys_Of.mono _ _ _)
      | (with_reducible exact LeO.refl _)
      | (with_reducible exact LeO.none _)
      | (with_reducible refine LeO.ite ?_ ?_)
      | (with_reducible refine LeO.bind ?_ (fun _ => ?_))
      | exact keys_Of.mono _ _ _
      | exact LeO.none _
      | refine LeO.ite ?_ ?_
      | refine LeO.bind ?_ (fun _ => ?_)
set_option maxHeartbeats 8000000 in
set_option maxRecDepth 100000 in
theorem pleachlaw31_awake.calls (k : Nat)  (r : Bool) (w : World) (h : pleachlaw31_awake.f k  = some r) :
    Calls Try.prog 22 #[] w fun e w' => e = .returned (.bool r) ∧ Drawn0 w w' := by
  have H : ((keys_Of.f k (⟨#[97]⟩ : ByteArray) (⟨#[120]⟩ : ByteArray)).bind fun bt101 => (if bt101.1.toList = ([97, 0, 120] : List UInt8) then (some (bt101.2 == 0)) else (some false))) = some r := h
  clear h
  replace H := Option.bind_eq_some_iff.mp H
  obtain ⟨⟨t101, t102⟩, A10, H⟩ := H
  replace H : (if t101.toList = ([97, 0, 120] : List UInt8) then (some (t102 == 0)) else (some false)) = some r := H
  have A1 := Aside0.mk A10
  clear A10
  by_cases c2 : t101.toList = ([97, 0, 120] : List UInt8)
  · rw [if_pos c2] at H
    have c2b0 : (t101.toList == ([97, 0, 120] : List UInt8)) = true := beq_iff_eq.mpr c2
    have c2b1 : (t101.toList != ([97, 0, 120] : List UInt8)) = false := bne_eq_false_iff_eq.mpr c2
    clear c2
    obtain rfl := Option.some.inj H
    go_enter Try.func22, Try.ntmps22
    go_wp2_with (first | ((with_reducible refine gate_callee (f := 23) rfl ?_); refine goesL_ (some 4) rfl rfl Try.func23 (by kernel_rfl) rfl #[.string (⟨#[97]⟩ : ByteArray), .string (⟨#[120]⟩ : ByteArray)] rfl (by (try simp only [List.map_toArray, List.map_cons, List.map_nil]); first | done | rfl | (simp only [List.length_drop, List.length_take]; rfl)) ?_; (with_reducible refine (keys_Of.calls k (⟨#[97]⟩ : ByteArray) (⟨#[120]⟩ : ByteArray) t101 t102 _ A1.out).mono ?_); rintro e w' ⟨rfl, ⟨nd, rfl⟩⟩; refine ⟨_, rfl, ?_⟩))
    go_ret
    exact ⟨by first | rfl | (simp; done) | (simp [*]; done), by repeat (first | exact Drawn0.refl _ | apply Drawn0.step)⟩
  · rw [if_neg c2] at H
    have c2b0 : (t101.toList == ([97, 0, 120] : List UInt8)) = false := beq_eq_false_iff_ne.mpr c2
    have c2b1 : (t101.toList != ([97, 0, 120] : List UInt8)) = true := bne_iff_ne.mpr c2
    obtain rfl := Option.some.inj H
    go_enter Try.func22, Try.ntmps22
    go_wp2_with (first | ((with_reducible refine gate_callee (f := 23) rfl ?_); refine goesL_ (some 4) rfl rfl Try.func23 (by kernel_rfl) rfl #[.string (⟨#[97]⟩ : ByteArray), .string (⟨#[120]⟩ : ByteArray)] rfl (by (try simp only [List.map_toArray, List.map_cons, List.map_nil]); first | done | rfl | (simp only [List.length_drop, List.length_take]; rfl)) ?_; (with_reducible refine (keys_Of.calls k (⟨#[97]⟩ : ByteArray) (⟨#[120]⟩ : ByteArray) t101 t102 _ A1.out).mono ?_); rintro e w' ⟨rfl, ⟨nd, rfl⟩⟩; refine ⟨_, rfl, ?_⟩))
    go_ret
    exact ⟨by first | rfl | (simp; done) | (simp [*]; done), by repeat (first | exact Drawn0.refl _ | apply Drawn0.step)⟩

end Go.Proofs.Ytmnadajjgnniaaa.MA
end
section
namespace Go.Proofs.Ytmnadajjgnniaaa.MA
open Go.RowKit Go.Proofs.YtmnadajjgnniaaaW.PrintWords Go.Proofs.YtmnadajjgnniaaaW.PrintLast Go.Proofs.YtmnadajjgnniaaaW.PrintMore
attribute [local go_sem] max2_int min2_int max_two min_two max_three min_three max_four min_four   -- for this text's walks alone
set_option linter.unusedVariables false
set_option linter.unusedSimpArgs false

def pleachref05_Is.l0 : Nat → ByteArray → Int → Option (Bool)
  | 0, _, _ => none
  | k + 1, x0, x3 => if x3 < (x0.size : Int) then (if 0 ≤ x3 then (if (bt x0 x3) ≥ 97 then (if (bt x0 x3) ≥ 48 then (if ((bt x0 x3) ≤ 122) then (pleachref05_Is.l0 k x0 (wrap64 (x3 + 1))) else (if ((bt x0 x3) ≤ 57) then (pleachref05_Is.l0 k x0 (wrap64 (x3 + 1))) else (if (bt x0 x3) = 45 then (pleachref05_Is.l0 k x0 (wrap64 (x3 + 1))) else (some false)))) else (if ((bt x0 x3) ≤ 122) then (pleachref05_Is.l0 k x0 (wrap64 (x3 + 1))) else (if (bt x0 x3) = 45 then (pleachref05_Is.l0 k x0 (wrap64 (x3 + 1))) else (some false)))) else (if (bt x0 x3) ≥ 48 then (if ((bt x0 x3) ≤ 57) then (pleachref05_Is.l0 k x0 (wrap64 (x3 + 1))) else (if (bt x0 x3) = 45 then (pleachref05_Is.l0 k x0 (wrap64 (x3 + 1))) else (some false))) else (if (bt x0 x3) = 45 then (pleachref05_Is.l0 k x0 (wrap64 (x3 + 1))) else (some false)))) else (none)) else (if (x0.size : Int) ≥ 1 then (some (decide ((x0.size : Int) ≤ 12))) else (some false))
def pleachref05_Is.f (k : Nat) (a0 : ByteArray) : Option (Bool) := pleachref05_Is.l0 k a0 0
theorem pleachref05_Is.mono_l : ∀ k, (∀ y0 y1, LeO (pleachref05_Is.l0 k y0 y1) (pleachref05_Is.l0 (k + 1) y0 y1))
  | 0 => fun _ _ r h => by simp [pleachref05_Is.l0] at h
  | k + 1 => by
    have ih0 := pleachref05_Is.mono_l k
    · intro y0 y1
      unfold pleachref05_Is.l0
      repeat' first
      | (with_reducible exact ih0 _ _)
      | (with_reducible exact LeO.refl _)
      | (with_reducible exact LeO.none _)
      | (with_reducible refine LeO.ite ?_ ?_)
      | (with_reducible refine LeO.bind ?_ (fun _ => ?_))
      | exact ih0 _ _
      | exact LeO.none _
      | refine LeO.ite ?_ ?_
      | refine LeO.bind ?_ (fun _ => ?_)
theorem pleachref05_Is.mono : ∀ a0 k, LeO (pleachref05_Is.f k a0) (pleachref05_Is.f (k + 1) a0) := by
  intro a0 k
  have ih0 := pleachref05_Is.mono_l k
  unfold pleachref05_Is.f
  repeat' first
      | (with_reducible exact ih0 _ _)
      | (with_reducible exact LeO.refl _)
      | (with_reducible exact LeO.none _)
      | (with_reducible refine LeO.ite ?_ ?_)
      | (with_reducible refine LeO.bind ?_ (fun _ => ?_))
      | exact ih0 _ _
      | exact LeO.none _
      | refine LeO.ite ?_ ?_
      | refine LeO.bind ?_ (fun _ => ?_)
set_option maxHeartbeats 8000000 in
set_option maxRecDepth 100000 in
theorem pleachref05_Is.calls (k : Nat) (a0 : ByteArray) (r : Bool) (w : World) (h : pleachref05_Is.f k a0 = some r) :
    Calls Try.prog 54 #[.string a0] w fun e w' => e = .returned (.bool r) ∧ Drawn0 w w' := by
  have H : (pleachref05_Is.l0 k a0 0) = some r := h
  clear h
  have H' := Aside0.mk H
  clear H
  go_enter Try.func54, Try.ntmps54
  go_wp2
  go_loopg [3] k (fun kq v3 w' => ∃ (x3_1 : Int), v3 = .int .i64 x3_1 ∧ Aside0 (pleachref05_Is.l0 kq a0 x3_1 = some r) ∧ Aside0 (kq ≤ k) ∧ Drawn0 w w')
  case atStart => exact ⟨(0), (by first | rfl | (simp; done) | (simp [*]; done)), H', ⟨Nat.le_refl _⟩, by repeat (first | exact Drawn0.refl _ | apply Drawn0.step)⟩
  case round =>
    clear H'
    obtain ⟨x3_1, rfl, HA, HK1, ⟨m1, rfl⟩⟩ := hrel
    cases gk with
    | zero => exact absurd HA.out (by simp [pleachref05_Is.l0])
    | succ k1 =>
      have H := HA.out
      clear HA
      simp only [pleachref05_Is.l0] at H
      by_cases c2 : x3_1 < (a0.size : Int)
      · rw [if_pos c2] at H
        have c2b0 : decide (x3_1 < (a0.size : Int)) = true := decide_eq_true c2
        clear c2
        by_cases c3 : 0 ≤ x3_1
        · rw [if_pos c3] at H
          have c3b0 : decide (0 ≤ x3_1) = true := decide_eq_true c3
          clear c3
          by_cases c5 : (bt a0 x3_1) ≥ 97
          · rw [if_pos c5] at H
            have c5b0 : decide (97 ≤ (bt a0 x3_1)) = true := decide_eq_true c5
            clear c5
            by_cases c8 : (bt a0 x3_1) ≥ 48
            · rw [if_pos c8] at H
              have c8b0 : decide (48 ≤ (bt a0 x3_1)) = true := decide_eq_true c8
              clear c8
              by_cases c10 : ((bt a0 x3_1) ≤ 122)
              · rw [if_pos c10] at H
                have c10b0 : decide ((bt a0 x3_1) ≤ 122) = true := decide_eq_true c10
                clear c10
                have H' := Aside0.mk H
                clear H
                have p4 : 0 ≤ (x3_1 : Int) := of_decide_eq_true (by first | (with_reducible assumption) | assumption)
                have q4 : x3_1 < (a0.size : Int) := of_decide_eq_true (by first | (with_reducible assumption) | assumption)
                have hx4 := bt_at a0 x3_1
                replace p4 := eq_true p4
                replace q4 := eq_true q4
                have p6 : 0 ≤ (x3_1 : Int) := of_decide_eq_true (by first | (with_reducible assumption) | assumption)
                have q6 : x3_1 < (a0.size : Int) := of_decide_eq_true (by first | (with_reducible assumption) | assumption)
                have hx6 := bt_at a0 x3_1
                replace p6 := eq_true p6
                replace q6 := eq_true q6
                have p7 : 0 ≤ (x3_1 : Int) := of_decide_eq_true (by first | (with_reducible assumption) | assumption)
                have q7 : x3_1 < (a0.size : Int) := of_decide_eq_true (by first | (with_reducible assumption) | assumption)
                have hx7 := bt_at a0 x3_1
                replace p7 := eq_true p7
                replace q7 := eq_true q7
                have p9 : 0 ≤ (x3_1 : Int) := of_decide_eq_true (by first | (with_reducible assumption) | assumption)
                have q9 : x3_1 < (a0.size : Int) := of_decide_eq_true (by first | (with_reducible assumption) | assumption)
                have hx9 := bt_at a0 x3_1
                replace p9 := eq_true p9
                replace q9 := eq_true q9
                go_wp2
                go_roundg k1
                case measure => have := HK1.out; omega
                case rel => exact ⟨(wrap64 (x3_1 + 1)), (by first | rfl | (simp; done) | (simp [*]; done)), H', ⟨by have := HK1.out; omega⟩, by repeat (first | exact Drawn0.refl _ | apply Drawn0.step)⟩
              · rw [if_neg c10] at H
                have c10b0 : decide ((bt a0 x3_1) ≤ 122) = false := decide_eq_false c10
                clear c10
                by_cases c11 : ((bt a0 x3_1) ≤ 57)
                · rw [if_pos c11] at H
                  have c11b0 : decide ((bt a0 x3_1) ≤ 57) = true := decide_eq_true c11
                  clear c11
                  have H' := Aside0.mk H
                  clear H
                  have p4 : 0 ≤ (x3_1 : Int) := of_decide_eq_true (by first | (with_reducible assumption) | assumption)
                  have q4 : x3_1 < (a0.size : Int) := of_decide_eq_true (by first | (with_reducible assumption) | assumption)
                  have hx4 := bt_at a0 x3_1
                  replace p4 := eq_true p4
                  replace q4 := eq_true q4
                  have p6 : 0 ≤ (x3_1 : Int) := of_decide_eq_true (by first | (with_reducible assumption) | assumption)
                  have q6 : x3_1 < (a0.size : Int) := of_decide_eq_true (by first | (with_reducible assumption) | assumption)
                  have hx6 := bt_at a0 x3_1
                  replace p6 := eq_true p6
                  replace q6 := eq_true q6
                  have p7 : 0 ≤ (x3_1 : Int) := of_decide_eq_true (by first | (with_reducible assumption) | assumption)
                  have q7 : x3_1 < (a0.size : Int) := of_decide_eq_true (by first | (with_reducible assumption) | assumption)
                  have hx7 := bt_at a0 x3_1
                  replace p7 := eq_true p7
                  replace q7 := eq_true q7
                  have p9 : 0 ≤ (x3_1 : Int) := of_decide_eq_true (by first | (with_reducible assumption) | assumption)
                  have q9 : x3_1 < (a0.size : Int) := of_decide_eq_true (by first | (with_reducible assumption) | assumption)
                  have hx9 := bt_at a0 x3_1
                  replace p9 := eq_true p9
                  replace q9 := eq_true q9
                  go_wp2
                  go_roundg k1
                  case measure => have := HK1.out; omega
                  case rel => exact ⟨(wrap64 (x3_1 + 1)), (by first | rfl | (simp; done) | (simp [*]; done)), H', ⟨by have := HK1.out; omega⟩, by repeat (first | exact Drawn0.refl _ | apply Drawn0.step)⟩
                · rw [if_neg c11] at H
                  have c11b0 : decide ((bt a0 x3_1) ≤ 57) = false := decide_eq_false c11
                  clear c11
                  by_cases c13 : (bt a0 x3_1) = 45
                  · rw [if_pos c13] at H
                    have c13b0 : ((bt a0 x3_1) == 45) = true := beq_iff_eq.mpr c13
                    have c13b1 : ((bt a0 x3_1) != 45) = false := bne_eq_false_iff_eq.mpr c13
                    clear c13
                    have H' := Aside0.mk H
                    clear H
                    have p4 : 0 ≤ (x3_1 : Int) := of_decide_eq_true (by first | (with_reducible assumption) | assumption)
                    have q4 : x3_1 < (a0.size : Int) := of_decide_eq_true (by first | (with_reducible assumption) | assumption)
                    have hx4 := bt_at a0 x3_1
                    replace p4 := eq_true p4
                    replace q4 := eq_true q4
                    have p6 : 0 ≤ (x3_1 : Int) := of_decide_eq_true (by first | (with_reducible assumption) | assumption)
                    have q6 : x3_1 < (a0.size : Int) := of_decide_eq_true (by first | (with_reducible assumption) | assumption)
                    have hx6 := bt_at a0 x3_1
                    replace p6 := eq_true p6
                    replace q6 := eq_true q6
                    have p7 : 0 ≤ (x3_1 : Int) := of_decide_eq_true (by first | (with_reducible assumption) | assumption)
                    have q7 : x3_1 < (a0.size : Int) := of_decide_eq_true (by first | (with_reducible assumption) | assumption)
                    have hx7 := bt_at a0 x3_1
                    replace p7 := eq_true p7
                    replace q7 := eq_true q7
                    have p9 : 0 ≤ (x3_1 : Int) := of_decide_eq_true (by first | (with_reducible assumption) | assumption)
                    have q9 : x3_1 < (a0.size : Int) := of_decide_eq_true (by first | (with_reducible assumption) | assumption)
                    have hx9 := bt_at a0 x3_1
                    replace p9 := eq_true p9
                    replace q9 := eq_true q9
                    have p12 : 0 ≤ (x3_1 : Int) := of_decide_eq_true (by first | (with_reducible assumption) | assumption)
                    have q12 : x3_1 < (a0.size : Int) := of_decide_eq_true (by first | (with_reducible assumption) | assumption)
                    have hx12 := bt_at a0 x3_1
                    replace p12 := eq_true p12
                    replace q12 := eq_true q12
                    go_wp2
                    go_roundg k1
                    case measure => have := HK1.out; omega
                    case rel => exact ⟨(wrap64 (x3_1 + 1)), (by first | rfl | (simp; done) | (simp [*]; done)), H', ⟨by have := HK1.out; omega⟩, by repeat (first | exact Drawn0.refl _ | apply Drawn0.step)⟩
                  · rw [if_neg c13] at H
                    have c13b0 : ((bt a0 x3_1) == 45) = false := beq_eq_false_iff_ne.mpr c13
                    have c13b1 : ((bt a0 x3_1) != 45) = true := bne_iff_ne.mpr c13
                    obtain rfl := Option.some.inj H
                    have p4 : 0 ≤ (x3_1 : Int) := of_decide_eq_true (by first | (with_reducible assumption) | assumption)
                    have q4 : x3_1 < (a0.size : Int) := of_decide_eq_true (by first | (with_reducible assumption) | assumption)
                    have hx4 := bt_at a0 x3_1
                    replace p4 := eq_true p4
                    replace q4 := eq_true q4
                    have p6 : 0 ≤ (x3_1 : Int) := of_decide_eq_true (by first | (with_reducible assumption) | assumption)
                    have q6 : x3_1 < (a0.size : Int) := of_decide_eq_true (by first | (with_reducible assumption) | assumption)
                    have hx6 := bt_at a0 x3_1
                    replace p6 := eq_true p6
                    replace q6 := eq_true q6
                    have p7 : 0 ≤ (x3_1 : Int) := of_decide_eq_true (by first | (with_reducible assumption) | assumption)
                    have q7 : x3_1 < (a0.size : Int) := of_decide_eq_true (by first | (with_reducible assumption) | assumption)
                    have hx7 := bt_at a0 x3_1
                    replace p7 := eq_true p7
                    replace q7 := eq_true q7
                    have p9 : 0 ≤ (x3_1 : Int) := of_decide_eq_true (by first | (with_reducible assumption) | assumption)
                    have q9 : x3_1 < (a0.size : Int) := of_decide_eq_true (by first | (with_reducible assumption) | assumption)
                    have hx9 := bt_at a0 x3_1
                    replace p9 := eq_true p9
                    replace q9 := eq_true q9
                    have p12 : 0 ≤ (x3_1 : Int) := of_decide_eq_true (by first | (with_reducible assumption) | assumption)
                    have q12 : x3_1 < (a0.size : Int) := of_decide_eq_true (by first | (with_reducible assumption) | assumption)
                    have hx12 := bt_at a0 x3_1
                    replace p12 := eq_true p12
                    replace q12 := eq_true q12
                    go_wp2
                    go_ret
                    exact ⟨by first | rfl | (simp; done) | (simp [*]; done), by repeat (first | exact Drawn0.refl _ | apply Drawn0.step)⟩
            · rw [if_neg c8] at H
              have c8b0 : decide (48 ≤ (bt a0 x3_1)) = false := decide_eq_false c8
              clear c8
              by_cases c14 : ((bt a0 x3_1) ≤ 122)
              · rw [if_pos c14] at H
                have c14b0 : decide ((bt a0 x3_1) ≤ 122) = true := decide_eq_true c14
                clear c14
                have H' := Aside0.mk H
                clear H
                have p4 : 0 ≤ (x3_1 : Int) := of_decide_eq_true (by first | (with_reducible assumption) | assumption)
                have q4 : x3_1 < (a0.size : Int) := of_decide_eq_true (by first | (with_reducible assumption) | assumption)
                have hx4 := bt_at a0 x3_1
                replace p4 := eq_true p4
                replace q4 := eq_true q4
                have p6 : 0 ≤ (x3_1 : Int) := of_decide_eq_true (by first | (with_reducible assumption) | assumption)
                have q6 : x3_1 < (a0.size : Int) := of_decide_eq_true (by first | (with_reducible assumption) | assumption)
                have hx6 := bt_at a0 x3_1
                replace p6 := eq_true p6
                replace q6 := eq_true q6
                have p7 : 0 ≤ (x3_1 : Int) := of_decide_eq_true (by first | (with_reducible assumption) | assumption)
                have q7 : x3_1 < (a0.size : Int) := of_decide_eq_true (by first | (with_reducible assumption) | assumption)
                have hx7 := bt_at a0 x3_1
                replace p7 := eq_true p7
                replace q7 := eq_true q7
                go_wp2
                go_roundg k1
                case measure => have := HK1.out; omega
                case rel => exact ⟨(wrap64 (x3_1 + 1)), (by first | rfl | (simp; done) | (simp [*]; done)), H', ⟨by have := HK1.out; omega⟩, by repeat (first | exact Drawn0.refl _ | apply Drawn0.step)⟩
              · rw [if_neg c14] at H
                have c14b0 : decide ((bt a0 x3_1) ≤ 122) = false := decide_eq_false c14
                clear c14
                by_cases c16 : (bt a0 x3_1) = 45
                · rw [if_pos c16] at H
                  have c16b0 : ((bt a0 x3_1) == 45) = true := beq_iff_eq.mpr c16
                  have c16b1 : ((bt a0 x3_1) != 45) = false := bne_eq_false_iff_eq.mpr c16
                  clear c16
                  have H' := Aside0.mk H
                  clear H
                  have p4 : 0 ≤ (x3_1 : Int) := of_decide_eq_true (by first | (with_reducible assumption) | assumption)
                  have q4 : x3_1 < (a0.size : Int) := of_decide_eq_true (by first | (with_reducible assumption) | assumption)
                  have hx4 := bt_at a0 x3_1
                  replace p4 := eq_true p4
                  replace q4 := eq_true q4
                  have p6 : 0 ≤ (x3_1 : Int) := of_decide_eq_true (by first | (with_reducible assumption) | assumption)
                  have q6 : x3_1 < (a0.size : Int) := of_decide_eq_true (by first | (with_reducible assumption) | assumption)
                  have hx6 := bt_at a0 x3_1
                  replace p6 := eq_true p6
                  replace q6 := eq_true q6
                  have p7 : 0 ≤ (x3_1 : Int) := of_decide_eq_true (by first | (with_reducible assumption) | assumption)
                  have q7 : x3_1 < (a0.size : Int) := of_decide_eq_true (by first | (with_reducible assumption) | assumption)
                  have hx7 := bt_at a0 x3_1
                  replace p7 := eq_true p7
                  replace q7 := eq_true q7
                  have p15 : 0 ≤ (x3_1 : Int) := of_decide_eq_true (by first | (with_reducible assumption) | assumption)
                  have q15 : x3_1 < (a0.size : Int) := of_decide_eq_true (by first | (with_reducible assumption) | assumption)
                  have hx15 := bt_at a0 x3_1
                  replace p15 := eq_true p15
                  replace q15 := eq_true q15
                  go_wp2
                  go_roundg k1
                  case measure => have := HK1.out; omega
                  case rel => exact ⟨(wrap64 (x3_1 + 1)), (by first | rfl | (simp; done) | (simp [*]; done)), H', ⟨by have := HK1.out; omega⟩, by repeat (first | exact Drawn0.refl _ | apply Drawn0.step)⟩
                · rw [if_neg c16] at H
                  have c16b0 : ((bt a0 x3_1) == 45) = false := beq_eq_false_iff_ne.mpr c16
                  have c16b1 : ((bt a0 x3_1) != 45) = true := bne_iff_ne.mpr c16
                  obtain rfl := Option.some.inj H
                  have p4 : 0 ≤ (x3_1 : Int) := of_decide_eq_true (by first | (with_reducible assumption) | assumption)
                  have q4 : x3_1 < (a0.size : Int) := of_decide_eq_true (by first | (with_reducible assumption) | assumption)
                  have hx4 := bt_at a0 x3_1
                  replace p4 := eq_true p4
                  replace q4 := eq_true q4
                  have p6 : 0 ≤ (x3_1 : Int) := of_decide_eq_true (by first | (with_reducible assumption) | assumption)
                  have q6 : x3_1 < (a0.size : Int) := of_decide_eq_true (by first | (with_reducible assumption) | assumption)
                  have hx6 := bt_at a0 x3_1
                  replace p6 := eq_true p6
                  replace q6 := eq_true q6
                  have p7 : 0 ≤ (x3_1 : Int) := of_decide_eq_true (by first | (with_reducible assumption) | assumption)
                  have q7 : x3_1 < (a0.size : Int) := of_decide_eq_true (by first | (with_reducible assumption) | assumption)
                  have hx7 := bt_at a0 x3_1
                  replace p7 := eq_true p7
                  replace q7 := eq_true q7
                  have p15 : 0 ≤ (x3_1 : Int) := of_decide_eq_true (by first | (with_reducible assumption) | assumption)
                  have q15 : x3_1 < (a0.size : Int) := of_decide_eq_true (by first | (with_reducible assumption) | assumption)
                  have hx15 := bt_at a0 x3_1
                  replace p15 := eq_true p15
                  replace q15 := eq_true q15
                  go_wp2
                  go_ret
                  exact ⟨by first | rfl | (simp; done) | (simp [*]; done), by repeat (first | exact Drawn0.refl _ | apply Drawn0.step)⟩
          · rw [if_neg c5] at H
            have c5b0 : decide (97 ≤ (bt a0 x3_1)) = false := decide_eq_false c5
            clear c5
            by_cases c18 : (bt a0 x3_1) ≥ 48
            · rw [if_pos c18] at H
              have c18b0 : decide (48 ≤ (bt a0 x3_1)) = true := decide_eq_true c18
              clear c18
              by_cases c20 : ((bt a0 x3_1) ≤ 57)
              · rw [if_pos c20] at H
                have c20b0 : decide ((bt a0 x3_1) ≤ 57) = true := decide_eq_true c20
                clear c20
                have H' := Aside0.mk H
                clear H
                have p4 : 0 ≤ (x3_1 : Int) := of_decide_eq_true (by first | (with_reducible assumption) | assumption)
                have q4 : x3_1 < (a0.size : Int) := of_decide_eq_true (by first | (with_reducible assumption) | assumption)
                have hx4 := bt_at a0 x3_1
                replace p4 := eq_true p4
                replace q4 := eq_true q4
                have p17 : 0 ≤ (x3_1 : Int) := of_decide_eq_true (by first | (with_reducible assumption) | assumption)
                have q17 : x3_1 < (a0.size : Int) := of_decide_eq_true (by first | (with_reducible assumption) | assumption)
                have hx17 := bt_at a0 x3_1
                replace p17 := eq_true p17
                replace q17 := eq_true q17
                have p19 : 0 ≤ (x3_1 : Int) := of_decide_eq_true (by first | (with_reducible assumption) | assumption)
                have q19 : x3_1 < (a0.size : Int) := of_decide_eq_true (by first | (with_reducible assumption) | assumption)
                have hx19 := bt_at a0 x3_1
                replace p19 := eq_true p19
                replace q19 := eq_true q19
                go_wp2
                go_roundg k1
                case measure => have := HK1.out; omega
                case rel => exact ⟨(wrap64 (x3_1 + 1)), (by first | rfl | (simp; done) | (simp [*]; done)), H', ⟨by have := HK1.out; omega⟩, by repeat (first | exact Drawn0.refl _ | apply Drawn0.step)⟩
              · rw [if_neg c20] at H
                have c20b0 : decide ((bt a0 x3_1) ≤ 57) = false := decide_eq_false c20
                clear c20
                by_cases c22 : (bt a0 x3_1) = 45
                · rw [if_pos c22] at H
                  have c22b0 : ((bt a0 x3_1) == 45) = true := beq_iff_eq.mpr c22
                  have c22b1 : ((bt a0 x3_1) != 45) = false := bne_eq_false_iff_eq.mpr c22
                  clear c22
                  have H' := Aside0.mk H
                  clear H
                  have p4 : 0 ≤ (x3_1 : Int) := of_decide_eq_true (by first | (with_reducible assumption) | assumption)
                  have q4 : x3_1 < (a0.size : Int) := of_decide_eq_true (by first | (with_reducible assumption) | assumption)
                  have hx4 := bt_at a0 x3_1
                  replace p4 := eq_true p4
                  replace q4 := eq_true q4
                  have p17 : 0 ≤ (x3_1 : Int) := of_decide_eq_true (by first | (with_reducible assumption) | assumption)
                  have q17 : x3_1 < (a0.size : Int) := of_decide_eq_true (by first | (with_reducible assumption) | assumption)
                  have hx17 := bt_at a0 x3_1
                  replace p17 := eq_true p17
                  replace q17 := eq_true q17
                  have p19 : 0 ≤ (x3_1 : Int) := of_decide_eq_true (by first | (with_reducible assumption) | assumption)
                  have q19 : x3_1 < (a0.size : Int) := of_decide_eq_true (by first | (with_reducible assumption) | assumption)
                  have hx19 := bt_at a0 x3_1
                  replace p19 := eq_true p19
                  replace q19 := eq_true q19
                  have p21 : 0 ≤ (x3_1 : Int) := of_decide_eq_true (by first | (with_reducible assumption) | assumption)
                  have q21 : x3_1 < (a0.size : Int) := of_decide_eq_true (by first | (with_reducible assumption) | assumption)
                  have hx21 := bt_at a0 x3_1
                  replace p21 := eq_true p21
                  replace q21 := eq_true q21
                  go_wp2
                  go_roundg k1
                  case measure => have := HK1.out; omega
                  case rel => exact ⟨(wrap64 (x3_1 + 1)), (by first | rfl | (simp; done) | (simp [*]; done)), H', ⟨by have := HK1.out; omega⟩, by repeat (first | exact Drawn0.refl _ | apply Drawn0.step)⟩
                · rw [if_neg c22] at H
                  have c22b0 : ((bt a0 x3_1) == 45) = false := beq_eq_false_iff_ne.mpr c22
                  have c22b1 : ((bt a0 x3_1) != 45) = true := bne_iff_ne.mpr c22
                  obtain rfl := Option.some.inj H
                  have p4 : 0 ≤ (x3_1 : Int) := of_decide_eq_true (by first | (with_reducible assumption) | assumption)
                  have q4 : x3_1 < (a0.size : Int) := of_decide_eq_true (by first | (with_reducible assumption) | assumption)
                  have hx4 := bt_at a0 x3_1
                  replace p4 := eq_true p4
                  replace q4 := eq_true q4
                  have p17 : 0 ≤ (x3_1 : Int) := of_decide_eq_true (by first | (with_reducible assumption) | assumption)
                  have q17 : x3_1 < (a0.size : Int) := of_decide_eq_true (by first | (with_reducible assumption) | assumption)
                  have hx17 := bt_at a0 x3_1
                  replace p17 := eq_true p17
                  replace q17 := eq_true q17
                  have p19 : 0 ≤ (x3_1 : Int) := of_decide_eq_true (by first | (with_reducible assumption) | assumption)
                  have q19 : x3_1 < (a0.size : Int) := of_decide_eq_true (by first | (with_reducible assumption) | assumption)
                  have hx19 := bt_at a0 x3_1
                  replace p19 := eq_true p19
                  replace q19 := eq_true q19
                  have p21 : 0 ≤ (x3_1 : Int) := of_decide_eq_true (by first | (with_reducible assumption) | assumption)
                  have q21 : x3_1 < (a0.size : Int) := of_decide_eq_true (by first | (with_reducible assumption) | assumption)
                  have hx21 := bt_at a0 x3_1
                  replace p21 := eq_true p21
                  replace q21 := eq_true q21
                  go_wp2
                  go_ret
                  exact ⟨by first | rfl | (simp; done) | (simp [*]; done), by repeat (first | exact Drawn0.refl _ | apply Drawn0.step)⟩
            · rw [if_neg c18] at H
              have c18b0 : decide (48 ≤ (bt a0 x3_1)) = false := decide_eq_false c18
              clear c18
              by_cases c24 : (bt a0 x3_1) = 45
              · rw [if_pos c24] at H
                have c24b0 : ((bt a0 x3_1) == 45) = true := beq_iff_eq.mpr c24
                have c24b1 : ((bt a0 x3_1) != 45) = false := bne_eq_false_iff_eq.mpr c24
                clear c24
                have H' := Aside0.mk H
                clear H
                have p4 : 0 ≤ (x3_1 : Int) := of_decide_eq_true (by first | (with_reducible assumption) | assumption)
                have q4 : x3_1 < (a0.size : Int) := of_decide_eq_true (by first | (with_reducible assumption) | assumption)
                have hx4 := bt_at a0 x3_1
                replace p4 := eq_true p4
                replace q4 := eq_true q4
                have p17 : 0 ≤ (x3_1 : Int) := of_decide_eq_true (by first | (with_reducible assumption) | assumption)
                have q17 : x3_1 < (a0.size : Int) := of_decide_eq_true (by first | (with_reducible assumption) | assumption)
                have hx17 := bt_at a0 x3_1
                replace p17 := eq_true p17
                replace q17 := eq_true q17
                have p23 : 0 ≤ (x3_1 : Int) := of_decide_eq_true (by first | (with_reducible assumption) | assumption)
                have q23 : x3_1 < (a0.size : Int) := of_decide_eq_true (by first | (with_reducible assumption) | assumption)
                have hx23 := bt_at a0 x3_1
                replace p23 := eq_true p23
                replace q23 := eq_true q23
                go_wp2
                go_roundg k1
                case measure => have := HK1.out; omega
                case rel => exact ⟨(wrap64 (x3_1 + 1)), (by first | rfl | (simp; done) | (simp [*]; done)), H', ⟨by have := HK1.out; omega⟩, by repeat (first | exact Drawn0.refl _ | apply Drawn0.step)⟩
              · rw [if_neg c24] at H
                have c24b0 : ((bt a0 x3_1) == 45) = false := beq_eq_false_iff_ne.mpr c24
                have c24b1 : ((bt a0 x3_1) != 45) = true := bne_iff_ne.mpr c24
                obtain rfl := Option.some.inj H
                have p4 : 0 ≤ (x3_1 : Int) := of_decide_eq_true (by first | (with_reducible assumption) | assumption)
                have q4 : x3_1 < (a0.size : Int) := of_decide_eq_true (by first | (with_reducible assumption) | assumption)
                have hx4 := bt_at a0 x3_1
                replace p4 := eq_true p4
                replace q4 := eq_true q4
                have p17 : 0 ≤ (x3_1 : Int) := of_decide_eq_true (by first | (with_reducible assumption) | assumption)
                have q17 : x3_1 < (a0.size : Int) := of_decide_eq_true (by first | (with_reducible assumption) | assumption)
                have hx17 := bt_at a0 x3_1
                replace p17 := eq_true p17
                replace q17 := eq_true q17
                have p23 : 0 ≤ (x3_1 : Int) := of_decide_eq_true (by first | (with_reducible assumption) | assumption)
                have q23 : x3_1 < (a0.size : Int) := of_decide_eq_true (by first | (with_reducible assumption) | assumption)
                have hx23 := bt_at a0 x3_1
                replace p23 := eq_true p23
                replace q23 := eq_true q23
                go_wp2
                go_ret
                exact ⟨by first | rfl | (simp; done) | (simp [*]; done), by repeat (first | exact Drawn0.refl _ | apply Drawn0.step)⟩
        · rw [if_neg c3] at H
          exact absurd H (by simp)
      · rw [if_neg c2] at H
        have c2b0 : decide (x3_1 < (a0.size : Int)) = false := decide_eq_false c2
        clear c2
        by_cases c25 : (a0.size : Int) ≥ 1
        · rw [if_pos c25] at H
          have c25b0 : decide (1 ≤ (a0.size : Int)) = true := decide_eq_true c25
          have c25b1 : decide (1 ≤ a0.size) = true := decide_eq_true (by omega)
          clear c25
          obtain rfl := Option.some.inj H
          go_wp2
          go_ret
          exact ⟨by first | rfl | (simp; done) | (simp [*]; done), by repeat (first | exact Drawn0.refl _ | apply Drawn0.step)⟩
        · rw [if_neg c25] at H
          have c25b0 : decide (1 ≤ (a0.size : Int)) = false := decide_eq_false c25
          have c25b1 : decide (1 ≤ a0.size) = false := decide_eq_false (by omega)
          clear c25
          obtain rfl := Option.some.inj H
          go_wp2
          go_ret
          exact ⟨by first | rfl | (simp; done) | (simp [*]; done), by repeat (first | exact Drawn0.refl _ | apply Drawn0.step)⟩

end Go.Proofs.Ytmnadajjgnniaaa.MA
end
section
namespace Go.Proofs.Ytmnadajjgnniaaa.MA
open Go.RowKit Go.Proofs.YtmnadajjgnniaaaW.PrintWords Go.Proofs.YtmnadajjgnniaaaW.PrintLast Go.Proofs.YtmnadajjgnniaaaW.PrintMore
attribute [local go_sem] max2_int min2_int max_two min_two max_three min_three max_four min_four   -- for this text's walks alone
set_option linter.unusedVariables false
set_option linter.unusedSimpArgs false

def pleachref31_Of.f (k : Nat) (a0 : ByteArray) (a1 : ByteArray) : Option (ByteArray × Bool) := (pleachref05_Is.f k a0).bind fun t101 => (if t101 = true then ((pleachref05_Is.f k a1).bind fun t102 => (if t102 = true then (if a0.size + 1 ≤ 9223372036854775807 then (if a0.size + 1 + a1.size ≤ 9223372036854775807 then (some ((a0 ++ (⟨#[0]⟩ : ByteArray)) ++ a1, true)) else (none)) else (none)) else (some ((⟨#[]⟩ : ByteArray), false)))) else (some ((⟨#[]⟩ : ByteArray), false)))
theorem pleachref31_Of.mono : ∀ a0 a1 k, LeO (pleachref31_Of.f k a0 a1) (pleachref31_Of.f (k + 1) a0 a1) := by
  intro a0 a1 k
  unfold pleachref31_Of.f
  repeat' first
      | (with_reducible exact pleachref05_Is.mono _ _)
      | (with_reducible exact LeO.refl _)
      | (with_reducible exact LeO.none _)
      | (with_reducible refine LeO.ite ?_ ?_)
      | (with_reducible refine LeO.bind ?_ (fun _ => ?_))
      | exact pleachref05_Is.mono _ _
      | exact LeO.none _
      | refine LeO.ite ?_ ?_
      | refine LeO.bind ?_ (fun _ => ?_)
set_option maxHeartbeats 8000000 in
set_option maxRecDepth 100000 in
theorem pleachref31_Of.calls (k : Nat) (a0 : ByteArray) (a1 : ByteArray) (r1 : ByteArray) (r2 : Bool) (w : World) (h : pleachref31_Of.f k a0 a1 = some (r1, r2)) :
    Calls Try.prog 24 #[.string a0, .string a1] w fun e w' => e = .returned (.tuple #[.string r1, .bool r2]) ∧ Drawn0 w w' := by
  have H : ((pleachref05_Is.f k a0).bind fun t101 => (if t101 = true then ((pleachref05_Is.f k a1).bind fun t102 => (if t102 = true then (if a0.size + 1 ≤ 9223372036854775807 then (if a0.size + 1 + a1.size ≤ 9223372036854775807 then (some ((a0 ++ (⟨#[0]⟩ : ByteArray)) ++ a1, true)) else (none)) else (none)) else (some ((⟨#[]⟩ : ByteArray), false)))) else (some ((⟨#[]⟩ : ByteArray), false)))) = some (r1, r2) := h
  clear h
  replace H := Option.bind_eq_some_iff.mp H
  obtain ⟨t101, A30, H⟩ := H
  replace H : (if t101 = true then ((pleachref05_Is.f k a1).bind fun t102 => (if t102 = true then (if a0.size + 1 ≤ 9223372036854775807 then (if a0.size + 1 + a1.size ≤ 9223372036854775807 then (some ((a0 ++ (⟨#[0]⟩ : ByteArray)) ++ a1, true)) else (none)) else (none)) else (some ((⟨#[]⟩ : ByteArray), false)))) else (some ((⟨#[]⟩ : ByteArray), false))) = some (r1, r2) := H
  have A3 := Aside0.mk A30
  clear A30
  by_cases c4 : t101 = true
  · subst c4
    have H1 : ((pleachref05_Is.f k a1).bind fun t102 => (if t102 = true then (if a0.size + 1 ≤ 9223372036854775807 then (if a0.size + 1 + a1.size ≤ 9223372036854775807 then (some ((a0 ++ (⟨#[0]⟩ : ByteArray)) ++ a1, true)) else (none)) else (none)) else (some ((⟨#[]⟩ : ByteArray), false)))) = some (r1, r2) := by rw [if_pos rfl] at H; exact H
    clear H
    have H := H1
    clear H1
    replace H := Option.bind_eq_some_iff.mp H
    obtain ⟨t102, A50, H⟩ := H
    replace H : (if t102 = true then (if a0.size + 1 ≤ 9223372036854775807 then (if a0.size + 1 + a1.size ≤ 9223372036854775807 then (some ((a0 ++ (⟨#[0]⟩ : ByteArray)) ++ a1, true)) else (none)) else (none)) else (some ((⟨#[]⟩ : ByteArray), false))) = some (r1, r2) := H
    have A5 := Aside0.mk A50
    clear A50
    by_cases c6 : t102 = true
    · subst c6
      have H1 : (if a0.size + 1 ≤ 9223372036854775807 then (if a0.size + 1 + a1.size ≤ 9223372036854775807 then (some ((a0 ++ (⟨#[0]⟩ : ByteArray)) ++ a1, true)) else (none)) else (none)) = some (r1, r2) := by rw [if_pos rfl] at H; exact H
      clear H
      have H := H1
      clear H1
      by_cases c7 : a0.size + 1 ≤ 9223372036854775807
      · rw [if_pos c7] at H
        have c7b0 := eq_true c7
        have c7b1 : decide (a0.size + 1 ≤ 9223372036854775807) = true := decide_eq_true c7
        try have c7b2 : (9223372036854775807 < a0.size + 1) = False := eq_false (Nat.not_lt.2 c7)
        by_cases c8 : a0.size + 1 + a1.size ≤ 9223372036854775807
        · rw [if_pos c8] at H
          have c8b0 := eq_true c8
          have c8b1 : decide (a0.size + 1 + a1.size ≤ 9223372036854775807) = true := decide_eq_true c8
          try have c8b2 : (9223372036854775807 < a0.size + 1 + a1.size) = False := eq_false (Nat.not_lt.2 c8)
          simp only [Option.some.injEq, Prod.mk.injEq] at H
          obtain ⟨rfl, rfl⟩ := H
          go_enter Try.func24, Try.ntmps24
          go_wp2_with (first | ((with_reducible refine gate_callee (f := 54) rfl ?_); refine goesL_ (some 7) rfl rfl Try.func54 (by kernel_rfl) rfl #[.string a0] rfl (by (try simp only [List.map_toArray, List.map_cons, List.map_nil]); first | done | rfl | (simp only [List.length_drop, List.length_take]; rfl)) ?_; (with_reducible refine (pleachref05_Is.calls k a0 true _ A3.out).mono ?_); rintro e w' ⟨rfl, ⟨nd, rfl⟩⟩; refine ⟨_, rfl, ?_⟩) | (go_at_call 54; (with_reducible refine (pleachref05_Is.calls k a1 true _ A5.out).mono ?_); rintro e w' ⟨rfl, ⟨nd, rfl⟩⟩))
          go_ret2
          exact ⟨by first | rfl | (simp; done) | (simp [*]; done), by repeat (first | exact Drawn0.refl _ | apply Drawn0.step)⟩
        · rw [if_neg c8] at H
          exact absurd H (by simp)
      · rw [if_neg c7] at H
        exact absurd H (by simp)
    · replace c6 := Bool.eq_false_iff.mpr c6
      subst c6
      have H1 : (some ((⟨#[]⟩ : ByteArray), false)) = some (r1, r2) := by rw [if_neg (show ¬ (false = true) by decide)] at H; exact H
      clear H
      have H := H1
      clear H1
      simp only [Option.some.injEq, Prod.mk.injEq] at H
      obtain ⟨rfl, rfl⟩ := H
      go_enter Try.func24, Try.ntmps24
      go_wp2_with (first | ((with_reducible refine gate_callee (f := 54) rfl ?_); refine goesL_ (some 7) rfl rfl Try.func54 (by kernel_rfl) rfl #[.string a0] rfl (by (try simp only [List.map_toArray, List.map_cons, List.map_nil]); first | done | rfl | (simp only [List.length_drop, List.length_take]; rfl)) ?_; (with_reducible refine (pleachref05_Is.calls k a0 true _ A3.out).mono ?_); rintro e w' ⟨rfl, ⟨nd, rfl⟩⟩; refine ⟨_, rfl, ?_⟩) | (go_at_call 54; (with_reducible refine (pleachref05_Is.calls k a1 false _ A5.out).mono ?_); rintro e w' ⟨rfl, ⟨nd, rfl⟩⟩))
      go_ret2
      exact ⟨by first | rfl | (simp; done) | (simp [*]; done), by repeat (first | exact Drawn0.refl _ | apply Drawn0.step)⟩
  · replace c4 := Bool.eq_false_iff.mpr c4
    subst c4
    have H1 : (some ((⟨#[]⟩ : ByteArray), false)) = some (r1, r2) := by rw [if_neg (show ¬ (false = true) by decide)] at H; exact H
    clear H
    have H := H1
    clear H1
    simp only [Option.some.injEq, Prod.mk.injEq] at H
    obtain ⟨rfl, rfl⟩ := H
    go_enter Try.func24, Try.ntmps24
    go_wp2_with (first | ((with_reducible refine gate_callee (f := 54) rfl ?_); refine goesL_ (some 7) rfl rfl Try.func54 (by kernel_rfl) rfl #[.string a0] rfl (by (try simp only [List.map_toArray, List.map_cons, List.map_nil]); first | done | rfl | (simp only [List.length_drop, List.length_take]; rfl)) ?_; (with_reducible refine (pleachref05_Is.calls k a0 false _ A3.out).mono ?_); rintro e w' ⟨rfl, ⟨nd, rfl⟩⟩; refine ⟨_, rfl, ?_⟩))
    go_ret2
    exact ⟨by first | rfl | (simp; done) | (simp [*]; done), by repeat (first | exact Drawn0.refl _ | apply Drawn0.step)⟩

end Go.Proofs.Ytmnadajjgnniaaa.MA
end
section
namespace Go.Proofs.Ytmnadajjgnniaaa.MA
open Go.RowKit Go.Proofs.YtmnadajjgnniaaaW.PrintWords Go.Proofs.YtmnadajjgnniaaaW.PrintLast Go.Proofs.YtmnadajjgnniaaaW.PrintMore
attribute [local go_sem] max2_int min2_int max_two min_two max_three min_three max_four min_four   -- for this text's walks alone
set_option linter.unusedVariables false
set_option linter.unusedSimpArgs false

def stringslite_Index.f (a0 a1 : ByteArray) : Option Int := if a1.size = 1 then some (Lib.indexByte a0.data.toList (a1.data.toList.headD 0)) else none
theorem stringslite_Index.ext (s : ByteArray) (c : Int) (W : World) : (callFunc 135 #[.string s, .int .u8 c]).run Try.prog W = .ok (.value (.int .i64 (firstIdx s c.toNat.toUInt8))) W := by
  rw [run_callFunc_extern (P := Try.prog) (f := 135) (fn := Try.f135) (e := Extern.BytealgIndexByte.indexByte) Try.func135 (by kernel_rfl) (by kernel_rfl) (by kernel_rfl) (by kernel_rfl), run_indexByte_string]
  rfl
theorem stringslite_Index.one (a1 : ByteArray) (h1 : a1.size = 1) : ∃ c, a1 = ⟨#[c]⟩ := by
  obtain ⟨⟨l⟩⟩ := a1
  match l, h1 with
  | [c], _ => exact ⟨c, rfl⟩
theorem stringslite_Index.same (a0 a1 : ByteArray) (h1 : a1.size = 1) (he : (a1.toList == a0.toList) = true) : Lib.indexByte a0.data.toList (a1.data.toList.headD 0) = 0 := by
  obtain ⟨c, rfl⟩ := stringslite_Index.one a1 h1
  have h2 := eq_of_beq he
  rw [ByteArray.toList_eq, ByteArray.toList_eq] at h2
  rw [← h2]
  simp [Lib.indexByte]
theorem stringslite_Index.at_ (a0 a1 : ByteArray) (h1 : a1.size = 1) : firstIdx a0 (a1[0]'(by omega)) = Lib.indexByte a0.data.toList (a1.data.toList.headD 0) := by
  obtain ⟨c, rfl⟩ := stringslite_Index.one a1 h1
  rw [Lib.firstIdx_eq]
  rfl
set_option maxHeartbeats 1000000 in
set_option maxRecDepth 100000 in
theorem stringslite_Index.calls (a0 a1 : ByteArray) (r : Int) (w : World) (h : stringslite_Index.f a0 a1 = some r) :
    Calls Try.prog 109 #[.string a0, .string a1] w fun e w' => e = .returned (.int .i64 r) ∧ Drawn0 w w' := by
  unfold stringslite_Index.f at h
  split at h
  · rename_i h1
    injection h with h
    have hext := stringslite_Index.ext a0
    have H := Aside0.mk h
    clear h
    go_enter Try.func109, Try.ntmps109
    go_wp2
    · go_ret
      refine ⟨?_, Drawn0.refl w⟩
      have he : (a1.toList == a0.toList) = true := by assumption
      rw [← H.out, stringslite_Index.same a0 a1 h1 he]
      rfl
    · go_ret
      refine ⟨?_, Drawn0.refl w⟩
      have hq := stringslite_Index.at_ a0 a1 h1
      rw [← H.out, ← hq]
      rfl
  · cases h

end Go.Proofs.Ytmnadajjgnniaaa.MA
end
section
namespace Go.Proofs.Ytmnadajjgnniaaa.MA
open Go.RowKit Go.Proofs.YtmnadajjgnniaaaW.PrintWords Go.Proofs.YtmnadajjgnniaaaW.PrintLast Go.Proofs.YtmnadajjgnniaaaW.PrintMore
attribute [local go_sem] max2_int min2_int max_two min_two max_three min_three max_four min_four   -- for this text's walks alone
set_option linter.unusedVariables false
set_option linter.unusedSimpArgs false

def stringslite_Cut.f (a0 : ByteArray) (a1 : ByteArray) : Option (ByteArray × ByteArray × Bool) := (stringslite_Index.f a0 a1).bind fun t101 => (if t101 ≥ 0 then (if 0 ≤ t101 then (if t101 ≤ (a0.size : Int) then (if 0 ≤ (wrap64 (t101 + (a1.size : Int))) then (if (wrap64 (t101 + (a1.size : Int))) ≤ (a0.size : Int) then (some (a0.extract 0 (t101 : Int).toNat, a0.extract ((wrap64 (t101 + (a1.size : Int))) : Int).toNat a0.size, true)) else (none)) else (none)) else (none)) else (none)) else (some (a0, (⟨#[]⟩ : ByteArray), false)))
set_option maxHeartbeats 8000000 in
set_option maxRecDepth 100000 in
theorem stringslite_Cut.calls (a0 : ByteArray) (a1 : ByteArray) (r1 : ByteArray) (r2 : ByteArray) (r3 : Bool) (w : World) (h : stringslite_Cut.f a0 a1 = some (r1, r2, r3)) :
    Calls Try.prog 88 #[.string a0, .string a1] w fun e w' => e = .returned (.tuple #[.string r1, .string r2, .bool r3]) ∧ Drawn0 w w' := by
  have H : ((stringslite_Index.f a0 a1).bind fun t101 => (if t101 ≥ 0 then (if 0 ≤ t101 then (if t101 ≤ (a0.size : Int) then (if 0 ≤ (wrap64 (t101 + (a1.size : Int))) then (if (wrap64 (t101 + (a1.size : Int))) ≤ (a0.size : Int) then (some (a0.extract 0 (t101 : Int).toNat, a0.extract ((wrap64 (t101 + (a1.size : Int))) : Int).toNat a0.size, true)) else (none)) else (none)) else (none)) else (none)) else (some (a0, (⟨#[]⟩ : ByteArray), false)))) = some (r1, r2, r3) := h
  clear h
  replace H := Option.bind_eq_some_iff.mp H
  obtain ⟨t101, A30, H⟩ := H
  replace H : (if t101 ≥ 0 then (if 0 ≤ t101 then (if t101 ≤ (a0.size : Int) then (if 0 ≤ (wrap64 (t101 + (a1.size : Int))) then (if (wrap64 (t101 + (a1.size : Int))) ≤ (a0.size : Int) then (some (a0.extract 0 (t101 : Int).toNat, a0.extract ((wrap64 (t101 + (a1.size : Int))) : Int).toNat a0.size, true)) else (none)) else (none)) else (none)) else (none)) else (some (a0, (⟨#[]⟩ : ByteArray), false))) = some (r1, r2, r3) := H
  have A3 := Aside0.mk A30
  clear A30
  by_cases c4 : t101 ≥ 0
  · rw [if_pos c4] at H
    have c4b0 : decide (0 ≤ t101) = true := decide_eq_true c4
    clear c4
    by_cases c5 : 0 ≤ t101
    · rw [if_pos c5] at H
      have c5b0 := eq_true c5
      have c5b1 : decide (0 ≤ t101) = true := decide_eq_true c5
      clear c5
      by_cases c6 : t101 ≤ (a0.size : Int)
      · rw [if_pos c6] at H
        have c6b0 := eq_true c6
        have c6b1 : decide (t101 ≤ (a0.size : Int)) = true := decide_eq_true c6
        clear c6
        obtain ⟨ji7, hji7⟩ : ∃ j_ : Int, (wrap64 (t101 + (a1.size : Int))) = j_ := ⟨_, rfl⟩
        replace H : (if 0 ≤ (ji7) then (if (ji7) ≤ (a0.size : Int) then (some (a0.extract 0 (t101 : Int).toNat, a0.extract ((ji7) : Int).toNat a0.size, true)) else (none)) else (none)) = some (r1, r2, r3) := by first | (rw [hji7] at H; exact H) | (simp only [hji7] at H ⊢; exact H)
        (try rw [hji7] at A3)
        have hji7w : (IntKind.i64.wrap (t101 + (a1.size : Int))) = ji7 := (i64_w _).trans hji7
        by_cases c8 : 0 ≤ (ji7)
        · rw [if_pos c8] at H
          have c8b0 := eq_true c8
          have c8b1 : decide (0 ≤ (ji7)) = true := decide_eq_true c8
          clear c8
          by_cases c9 : (ji7) ≤ (a0.size : Int)
          · rw [if_pos c9] at H
            have c9b0 := eq_true c9
            have c9b1 : decide ((ji7) ≤ (a0.size : Int)) = true := decide_eq_true c9
            clear c9
            simp only [Option.some.injEq, Prod.mk.injEq] at H
            obtain ⟨rfl, rfl, rfl⟩ := H
            go_enter Try.func88, Try.ntmps88
            go_wp2_with (first | (go_at_call 109; (with_reducible refine (stringslite_Index.calls a0 a1 t101 _ A3.out).mono ?_); rintro e w' ⟨rfl, ⟨nd, rfl⟩⟩; (try first | exact ⟨rfl, _, World.drewN_drewN _ _ _⟩ | exact ⟨rfl, _, Eq.trans (World.drewN_drewN _ _ _) (congrArg (World.drewN _) (Nat.add_assoc _ _ _))⟩)))
            repeat (go_quiet (first | (go_at_call 109; (with_reducible refine (stringslite_Index.calls a0 a1 t101 _ A3.out).mono ?_); rintro e w' ⟨rfl, ⟨nd, rfl⟩⟩; (try first | exact ⟨rfl, _, World.drewN_drewN _ _ _⟩ | exact ⟨rfl, _, Eq.trans (World.drewN_drewN _ _ _) (congrArg (World.drewN _) (Nat.add_assoc _ _ _))⟩))); try go_wp2_with (first | (go_at_call 109; (with_reducible refine (stringslite_Index.calls a0 a1 t101 _ A3.out).mono ?_); rintro e w' ⟨rfl, ⟨nd, rfl⟩⟩; (try first | exact ⟨rfl, _, World.drewN_drewN _ _ _⟩ | exact ⟨rfl, _, Eq.trans (World.drewN_drewN _ _ _) (congrArg (World.drewN _) (Nat.add_assoc _ _ _))⟩))))
            go_ret3
            exact ⟨by first | rfl | (simp; done) | (simp only [← hji7] <;> (first | rfl | simp)) | (simp [*]; done), by repeat (first | exact Drawn0.refl _ | apply Drawn0.step)⟩
          · rw [if_neg c9] at H
            exact absurd H (by simp)
        · rw [if_neg c8] at H
          exact absurd H (by simp)
      · rw [if_neg c6] at H
        exact absurd H (by simp)
    · rw [if_neg c5] at H
      exact absurd H (by simp)
  · rw [if_neg c4] at H
    have c4b0 : decide (0 ≤ t101) = false := decide_eq_false c4
    clear c4
    simp only [Option.some.injEq, Prod.mk.injEq] at H
    obtain ⟨rfl, rfl, rfl⟩ := H
    go_enter Try.func88, Try.ntmps88
    go_wp2_with (first | (go_at_call 109; (with_reducible refine (stringslite_Index.calls a0 a1 t101 _ A3.out).mono ?_); rintro e w' ⟨rfl, ⟨nd, rfl⟩⟩; (try first | exact ⟨rfl, _, World.drewN_drewN _ _ _⟩ | exact ⟨rfl, _, Eq.trans (World.drewN_drewN _ _ _) (congrArg (World.drewN _) (Nat.add_assoc _ _ _))⟩)))
    repeat (go_quiet (first | (go_at_call 109; (with_reducible refine (stringslite_Index.calls a0 a1 t101 _ A3.out).mono ?_); rintro e w' ⟨rfl, ⟨nd, rfl⟩⟩; (try first | exact ⟨rfl, _, World.drewN_drewN _ _ _⟩ | exact ⟨rfl, _, Eq.trans (World.drewN_drewN _ _ _) (congrArg (World.drewN _) (Nat.add_assoc _ _ _))⟩))); try go_wp2_with (first | (go_at_call 109; (with_reducible refine (stringslite_Index.calls a0 a1 t101 _ A3.out).mono ?_); rintro e w' ⟨rfl, ⟨nd, rfl⟩⟩; (try first | exact ⟨rfl, _, World.drewN_drewN _ _ _⟩ | exact ⟨rfl, _, Eq.trans (World.drewN_drewN _ _ _) (congrArg (World.drewN _) (Nat.add_assoc _ _ _))⟩))))
    go_ret3
    exact ⟨by first | rfl | (simp; done) | (simp [*]; done), by repeat (first | exact Drawn0.refl _ | apply Drawn0.step)⟩

end Go.Proofs.Ytmnadajjgnniaaa.MA
end
section
namespace Go.Proofs.Ytmnadajjgnniaaa.MA
open Go.RowKit Go.Proofs.YtmnadajjgnniaaaW.PrintWords Go.Proofs.YtmnadajjgnniaaaW.PrintLast Go.Proofs.YtmnadajjgnniaaaW.PrintMore
attribute [local go_sem] max2_int min2_int max_two min_two max_three min_three max_four min_four   -- for this text's walks alone
set_option linter.unusedVariables false
set_option linter.unusedSimpArgs false

def strings_Cut.f (a0 : ByteArray) (a1 : ByteArray) : Option (ByteArray × ByteArray × Bool) := (stringslite_Cut.f a0 a1).bind fun bt101 => (some (bt101.1, bt101.2.1, bt101.2.2))
set_option maxHeartbeats 8000000 in
set_option maxRecDepth 100000 in
theorem strings_Cut.calls (a0 : ByteArray) (a1 : ByteArray) (r1 : ByteArray) (r2 : ByteArray) (r3 : Bool) (w : World) (h : strings_Cut.f a0 a1 = some (r1, r2, r3)) :
    Calls Try.prog 62 #[.string a0, .string a1] w fun e w' => e = .returned (.tuple #[.string r1, .string r2, .bool r3]) ∧ Drawn0 w w' := by
  have H : ((stringslite_Cut.f a0 a1).bind fun bt101 => (some (bt101.1, bt101.2.1, bt101.2.2))) = some (r1, r2, r3) := h
  clear h
  replace H := Option.bind_eq_some_iff.mp H
  obtain ⟨⟨t101, t102, t103⟩, A30, H⟩ := H
  replace H : (some (t101, t102, t103)) = some (r1, r2, r3) := H
  have A3 := Aside0.mk A30
  clear A30
  simp only [Option.some.injEq, Prod.mk.injEq] at H
  obtain ⟨rfl, rfl, rfl⟩ := H
  go_enter Try.func62, Try.ntmps62
  go_wp2_with (first | ((with_reducible refine gate_callee (f := 88) rfl ?_); refine goesL_ (some 9) rfl rfl Try.func88 (by kernel_rfl) rfl #[.string a0, .string a1] rfl (by (try simp only [List.map_toArray, List.map_cons, List.map_nil]); first | done | rfl | (simp only [List.length_drop, List.length_take]; rfl)) ?_; (with_reducible refine (stringslite_Cut.calls a0 a1 t101 t102 t103 _ A3.out).mono ?_); rintro e w' ⟨rfl, ⟨nd, rfl⟩⟩; refine ⟨_, rfl, ?_⟩))
  go_ret3
  exact ⟨by first | rfl | (simp; done) | (simp [*]; done), by repeat (first | exact Drawn0.refl _ | apply Drawn0.step)⟩

end Go.Proofs.Ytmnadajjgnniaaa.MA
end
section
namespace Go.Proofs.Ytmnadajjgnniaaa.MA
open Go.RowKit Go.Proofs.YtmnadajjgnniaaaW.PrintWords Go.Proofs.YtmnadajjgnniaaaW.PrintLast Go.Proofs.YtmnadajjgnniaaaW.PrintMore
attribute [local go_sem] max2_int min2_int max_two min_two max_three min_three max_four min_four   -- for this text's walks alone
set_option linter.unusedVariables false
set_option linter.unusedSimpArgs false

def keys_Parted.f (k : Nat) (a0 : ByteArray) : Option (ByteArray × ByteArray × Int) := (strings_Cut.f a0 (⟨#[0]⟩ : ByteArray)).bind fun bt101 => (if bt101.2.2 = true then ((name_Check.f k bt101.1).bind fun t104 => (if t104 = 0 then ((name_Check.f k bt101.2.1).bind fun t105 => (if t105 = 0 then (some (bt101.1, bt101.2.1, 0)) else (some ((⟨#[]⟩ : ByteArray), (⟨#[]⟩ : ByteArray), 3)))) else (some ((⟨#[]⟩ : ByteArray), (⟨#[]⟩ : ByteArray), 3)))) else (some ((⟨#[]⟩ : ByteArray), (⟨#[]⟩ : ByteArray), 3)))
theorem keys_Parted.mono : ∀ a0 k, LeO (keys_Parted.f k a0) (keys_Parted.f (k + 1) a0) := by
  intro a0 k
  unfold keys_Parted.f
  repeat' first
      | (with_reducible exact name_Check.mono _ _)
      | (with_reducible exact LeO.refl _)
      | (with_reducible exact LeO.none _)
      | (with_reducible refine LeO.ite ?_ ?_)
      | (with_reducible refine LeO.bind ?_ (fun _ => ?_))
      | exact name_Check.mono _ _
      | exact LeO.none _
      | refine LeO.ite ?_ ?_
      | refine LeO.bind ?_ (fun _ => ?_)
set_option maxHeartbeats 8000000 in
set_option maxRecDepth 100000 in
theorem keys_Parted.calls (k : Nat) (a0 : ByteArray) (r1 : ByteArray) (r2 : ByteArray) (r3 : Int) (w : World) (h : keys_Parted.f k a0 = some (r1, r2, r3)) :
    Calls Try.prog 25 #[.string a0] w fun e w' => e = .returned (.tuple #[.string r1, .string r2, .int .i64 r3]) ∧ Drawn0 w w' := by
  have H : ((strings_Cut.f a0 (⟨#[0]⟩ : ByteArray)).bind fun bt101 => (if bt101.2.2 = true then ((name_Check.f k bt101.1).bind fun t104 => (if t104 = 0 then ((name_Check.f k bt101.2.1).bind fun t105 => (if t105 = 0 then (some (bt101.1, bt101.2.1, 0)) else (some ((⟨#[]⟩ : ByteArray), (⟨#[]⟩ : ByteArray), 3)))) else (some ((⟨#[]⟩ : ByteArray), (⟨#[]⟩ : ByteArray), 3)))) else (some ((⟨#[]⟩ : ByteArray), (⟨#[]⟩ : ByteArray), 3)))) = some (r1, r2, r3) := h
  clear h
  replace H := Option.bind_eq_some_iff.mp H
  obtain ⟨⟨t101, t102, t103⟩, A20, H⟩ := H
  replace H : (if t103 = true then ((name_Check.f k t101).bind fun t104 => (if t104 = 0 then ((name_Check.f k t102).bind fun t105 => (if t105 = 0 then (some (t101, t102, 0)) else (some ((⟨#[]⟩ : ByteArray), (⟨#[]⟩ : ByteArray), 3)))) else (some ((⟨#[]⟩ : ByteArray), (⟨#[]⟩ : ByteArray), 3)))) else (some ((⟨#[]⟩ : ByteArray), (⟨#[]⟩ : ByteArray), 3))) = some (r1, r2, r3) := H
  have A2 := Aside0.mk A20
  clear A20
  by_cases c3 : t103 = true
  · subst c3
    have H1 : ((name_Check.f k t101).bind fun t104 => (if t104 = 0 then ((name_Check.f k t102).bind fun t105 => (if t105 = 0 then (some (t101, t102, 0)) else (some ((⟨#[]⟩ : ByteArray), (⟨#[]⟩ : ByteArray), 3)))) else (some ((⟨#[]⟩ : ByteArray), (⟨#[]⟩ : ByteArray), 3)))) = some (r1, r2, r3) := by rw [if_pos rfl] at H; exact H
    clear H
    have H := H1
    clear H1
    replace H := Option.bind_eq_some_iff.mp H
    obtain ⟨t104, A40, H⟩ := H
    replace H : (if t104 = 0 then ((name_Check.f k t102).bind fun t105 => (if t105 = 0 then (some (t101, t102, 0)) else (some ((⟨#[]⟩ : ByteArray), (⟨#[]⟩ : ByteArray), 3)))) else (some ((⟨#[]⟩ : ByteArray), (⟨#[]⟩ : ByteArray), 3))) = some (r1, r2, r3) := H
    have A4 := Aside0.mk A40
    clear A40
    by_cases c5 : t104 = 0
    · rw [if_pos c5] at H
      have c5b0 : (t104 == 0) = true := beq_iff_eq.mpr c5
      have c5b1 : (t104 != 0) = false := bne_eq_false_iff_eq.mpr c5
      clear c5
      replace H := Option.bind_eq_some_iff.mp H
      obtain ⟨t105, A60, H⟩ := H
      replace H : (if t105 = 0 then (some (t101, t102, 0)) else (some ((⟨#[]⟩ : ByteArray), (⟨#[]⟩ : ByteArray), 3))) = some (r1, r2, r3) := H
      have A6 := Aside0.mk A60
      clear A60
      by_cases c7 : t105 = 0
      · rw [if_pos c7] at H
        have c7b0 : (t105 == 0) = true := beq_iff_eq.mpr c7
        have c7b1 : (t105 != 0) = false := bne_eq_false_iff_eq.mpr c7
        clear c7
        simp only [Option.some.injEq, Prod.mk.injEq] at H
        obtain ⟨rfl, rfl, rfl⟩ := H
        go_enter Try.func25, Try.ntmps25
        go_wp2_with (first | ((with_reducible refine gate_callee (f := 62) rfl ?_); refine goesL_ (some 8) rfl rfl Try.func62 (by kernel_rfl) rfl #[.string a0, .string (⟨#[0]⟩ : ByteArray)] rfl (by (try simp only [List.map_toArray, List.map_cons, List.map_nil]); first | done | rfl | (simp only [List.length_drop, List.length_take]; rfl)) ?_; (with_reducible refine (strings_Cut.calls a0 (⟨#[0]⟩ : ByteArray) t101 t102 true _ A2.out).mono ?_); rintro e w' ⟨rfl, ⟨nd, rfl⟩⟩; refine ⟨_, rfl, ?_⟩) | (go_at_call 56; (with_reducible refine (name_Check.calls k t101 t104 _ A4.out).mono ?_); rintro e w' ⟨rfl, ⟨nd, rfl⟩⟩) | (go_at_call 56; (with_reducible refine (name_Check.calls k t102 t105 _ A6.out).mono ?_); rintro e w' ⟨rfl, ⟨nd, rfl⟩⟩))
        go_ret3
        exact ⟨by first | rfl | (simp; done) | (simp [*]; done), by repeat (first | exact Drawn0.refl _ | apply Drawn0.step)⟩
      · rw [if_neg c7] at H
        have c7b0 : (t105 == 0) = false := beq_eq_false_iff_ne.mpr c7
        have c7b1 : (t105 != 0) = true := bne_iff_ne.mpr c7
        simp only [Option.some.injEq, Prod.mk.injEq] at H
        obtain ⟨rfl, rfl, rfl⟩ := H
        go_enter Try.func25, Try.ntmps25
        go_wp2_with (first | ((with_reducible refine gate_callee (f := 62) rfl ?_); refine goesL_ (some 8) rfl rfl Try.func62 (by kernel_rfl) rfl #[.string a0, .string (⟨#[0]⟩ : ByteArray)] rfl (by (try simp only [List.map_toArray, List.map_cons, List.map_nil]); first | done | rfl | (simp only [List.length_drop, List.length_take]; rfl)) ?_; (with_reducible refine (strings_Cut.calls a0 (⟨#[0]⟩ : ByteArray) t101 t102 true _ A2.out).mono ?_); rintro e w' ⟨rfl, ⟨nd, rfl⟩⟩; refine ⟨_, rfl, ?_⟩) | (go_at_call 56; (with_reducible refine (name_Check.calls k t101 t104 _ A4.out).mono ?_); rintro e w' ⟨rfl, ⟨nd, rfl⟩⟩) | (go_at_call 56; (with_reducible refine (name_Check.calls k t102 t105 _ A6.out).mono ?_); rintro e w' ⟨rfl, ⟨nd, rfl⟩⟩))
        go_ret3
        exact ⟨by first | rfl | (simp; done) | (simp [*]; done), by repeat (first | exact Drawn0.refl _ | apply Drawn0.step)⟩
    · rw [if_neg c5] at H
      have c5b0 : (t104 == 0) = false := beq_eq_false_iff_ne.mpr c5
      have c5b1 : (t104 != 0) = true := bne_iff_ne.mpr c5
      simp only [Option.some.injEq, Prod.mk.injEq] at H
      obtain ⟨rfl, rfl, rfl⟩ := H
      go_enter Try.func25, Try.ntmps25
      go_wp2_with (first | ((with_reducible refine gate_callee (f := 62) rfl ?_); refine goesL_ (some 8) rfl rfl Try.func62 (by kernel_rfl) rfl #[.string a0, .string (⟨#[0]⟩ : ByteArray)] rfl (by (try simp only [List.map_toArray, List.map_cons, List.map_nil]); first | done | rfl | (simp only [List.length_drop, List.length_take]; rfl)) ?_; (with_reducible refine (strings_Cut.calls a0 (⟨#[0]⟩ : ByteArray) t101 t102 true _ A2.out).mono ?_); rintro e w' ⟨rfl, ⟨nd, rfl⟩⟩; refine ⟨_, rfl, ?_⟩) | (go_at_call 56; (with_reducible refine (name_Check.calls k t101 t104 _ A4.out).mono ?_); rintro e w' ⟨rfl, ⟨nd, rfl⟩⟩))
      go_ret3
      exact ⟨by first | rfl | (simp; done) | (simp [*]; done), by repeat (first | exact Drawn0.refl _ | apply Drawn0.step)⟩
  · replace c3 := Bool.eq_false_iff.mpr c3
    subst c3
    have H1 : (some ((⟨#[]⟩ : ByteArray), (⟨#[]⟩ : ByteArray), 3)) = some (r1, r2, r3) := by rw [if_neg (show ¬ (false = true) by decide)] at H; exact H
    clear H
    have H := H1
    clear H1
    simp only [Option.some.injEq, Prod.mk.injEq] at H
    obtain ⟨rfl, rfl, rfl⟩ := H
    go_enter Try.func25, Try.ntmps25
    go_wp2_with (first | ((with_reducible refine gate_callee (f := 62) rfl ?_); refine goesL_ (some 8) rfl rfl Try.func62 (by kernel_rfl) rfl #[.string a0, .string (⟨#[0]⟩ : ByteArray)] rfl (by (try simp only [List.map_toArray, List.map_cons, List.map_nil]); first | done | rfl | (simp only [List.length_drop, List.length_take]; rfl)) ?_; (with_reducible refine (strings_Cut.calls a0 (⟨#[0]⟩ : ByteArray) t101 t102 false _ A2.out).mono ?_); rintro e w' ⟨rfl, ⟨nd, rfl⟩⟩; refine ⟨_, rfl, ?_⟩))
    go_ret3
    exact ⟨by first | rfl | (simp; done) | (simp [*]; done), by repeat (first | exact Drawn0.refl _ | apply Drawn0.step)⟩

end Go.Proofs.Ytmnadajjgnniaaa.MA
end
section
namespace Go.Proofs.Ytmnadajjgnniaaa.MA
open Go.RowKit Go.Proofs.YtmnadajjgnniaaaW.PrintWords Go.Proofs.YtmnadajjgnniaaaW.PrintLast Go.Proofs.YtmnadajjgnniaaaW.PrintMore
attribute [local go_sem] max2_int min2_int max_two min_two max_three min_three max_four min_four   -- for this text's walks alone
set_option linter.unusedVariables false
set_option linter.unusedSimpArgs false

def pleachref31_Parted.l0 : Nat → ByteArray → Int → Option (ByteArray × ByteArray × Bool)
  | 0, _, _ => none
  | k + 1, x0, x5 => if x5 < (x0.size : Int) then (if 0 ≤ x5 then (if (bt x0 x5) = 0 then (if x5 ≤ (x0.size : Int) then (if 0 ≤ (wrap64 (x5 + 1)) then (if (wrap64 (x5 + 1)) ≤ (x0.size : Int) then ((pleachref31_Of.f k (x0.extract 0 (x5 : Int).toNat) (x0.extract ((wrap64 (x5 + 1)) : Int).toNat x0.size)).bind fun bt101 => (if bt101.2 = true then (if bt101.1.toList = x0.toList then (some (x0.extract 0 (x5 : Int).toNat, x0.extract ((wrap64 (x5 + 1)) : Int).toNat x0.size, true)) else (some ((⟨#[]⟩ : ByteArray), (⟨#[]⟩ : ByteArray), false))) else (some ((⟨#[]⟩ : ByteArray), (⟨#[]⟩ : ByteArray), false)))) else (none)) else (none)) else (none)) else (pleachref31_Parted.l0 k x0 (wrap64 (x5 + 1)))) else (none)) else (some ((⟨#[]⟩ : ByteArray), (⟨#[]⟩ : ByteArray), false))
def pleachref31_Parted.f (k : Nat) (a0 : ByteArray) : Option (ByteArray × ByteArray × Bool) := pleachref31_Parted.l0 k a0 0
theorem pleachref31_Parted.mono_l : ∀ k, (∀ y0 y1, LeO (pleachref31_Parted.l0 k y0 y1) (pleachref31_Parted.l0 (k + 1) y0 y1))
  | 0 => fun _ _ r h => by simp [pleachref31_Parted.l0] at h
  | k + 1 => by
    have ih0 := pleachref31_Parted.mono_l k
    · intro y0 y1
      unfold pleachref31_Parted.l0
      repeat' first
      | (with_reducible exact ih0 _ _)
      | (with_reducible exact pleachref31_Of.mono _ _ _)
      | (with_reducible exact LeO.refl _)
      | (with_reducible exact LeO.none _)
      | (with_reducible refine LeO.ite ?_ ?_)
      | (with_reducible refine LeO.bind ?_ (fun _ => ?_))
      | exact ih0 _ _
      | exact pleachref31_Of.mono _ _ _
      | exact LeO.none _
      | refine LeO.ite ?_ ?_
      | refine LeO.bind ?_ (fun _ => ?_)
theorem pleachref31_Parted.mono : ∀ a0 k, LeO (pleachref31_Parted.f k a0) (pleachref31_Parted.f (k + 1) a0) := by
  intro a0 k
  have ih0 := pleachref31_Parted.mono_l k
  unfold pleachref31_Parted.f
  repeat' first
      | (with_reducible exact ih0 _ _)
      | (with_reducible exact pleachref31_Of.mono _ _ _)
      | (with_reducible exact LeO.refl _)
      | (with_reducible exact LeO.none _)
      | (with_reducible refine LeO.ite ?_ ?_)
      | (with_reducible refine LeO.bind ?_ (fun _ => ?_))
      | exact ih0 _ _
      | exact pleachref31_Of.mono _ _ _
      | exact LeO.none _
      | refine LeO.ite ?_ ?_
      | refine LeO.bind ?_ (fun _ => ?_)
set_option maxHeartbeats 8000000 in
set_option maxRecDepth 100000 in
theorem pleachref31_Parted.calls (k : Nat) (a0 : ByteArray) (r1 : ByteArray) (r2 : ByteArray) (r3 : Bool) (w : World) (h : pleachref31_Parted.f k a0 = some (r1, r2, r3)) :
    Calls Try.prog 26 #[.string a0] w fun e w' => e = .returned (.tuple #[.string r1, .string r2, .bool r3]) ∧ Drawn0 w w' := by
  have H : (pleachref31_Parted.l0 k a0 0) = some (r1, r2, r3) := h
  clear h
  have H' := Aside0.mk H
  clear H
  go_enter Try.func26, Try.ntmps26
  go_wp2
  repeat (go_quiet (fail); try go_wp2)
  go_loopg [5] k (fun kq v5 w' => ∃ (x5_1 : Int), v5 = .int .i64 x5_1 ∧ Aside0 (pleachref31_Parted.l0 kq a0 x5_1 = some (r1, r2, r3)) ∧ Aside0 (kq ≤ k) ∧ Drawn0 w w')
  case atStart => exact ⟨(0), (by first | rfl | (simp; done) | (simp [*]; done)), H', ⟨Nat.le_refl _⟩, by repeat (first | exact Drawn0.refl _ | apply Drawn0.step)⟩
  case round =>
    clear H'
    obtain ⟨x5_1, rfl, HA, HK1, ⟨m1, rfl⟩⟩ := hrel
    cases gk with
    | zero => exact absurd HA.out (by simp [pleachref31_Parted.l0])
    | succ k1 =>
      have H := HA.out
      clear HA
      simp only [pleachref31_Parted.l0] at H
      by_cases c2 : x5_1 < (a0.size : Int)
      · rw [if_pos c2] at H
        have c2b0 : decide (x5_1 < (a0.size : Int)) = true := decide_eq_true c2
        clear c2
        by_cases c3 : 0 ≤ x5_1
        · rw [if_pos c3] at H
          have c3b0 : decide (0 ≤ x5_1) = true := decide_eq_true c3
          clear c3
          by_cases c5 : (bt a0 x5_1) = 0
          · rw [if_pos c5] at H
            have c5b0 : ((bt a0 x5_1) == 0) = true := beq_iff_eq.mpr c5
            have c5b1 : ((bt a0 x5_1) != 0) = false := bne_eq_false_iff_eq.mpr c5
            clear c5
            have c6b0 := eq_true (of_decide_eq_true (by first | (with_reducible assumption) | assumption) : 0 ≤ x5_1)
            by_cases c7 : x5_1 ≤ (a0.size : Int)
            · rw [if_pos c7] at H
              have c7b0 := eq_true c7
              have c7b1 : decide (x5_1 ≤ (a0.size : Int)) = true := decide_eq_true c7
              clear c7
              obtain ⟨ji8, hji8⟩ : ∃ j_ : Int, (wrap64 (x5_1 + 1)) = j_ := ⟨_, rfl⟩
              replace H : (if 0 ≤ (ji8) then (if (ji8) ≤ (a0.size : Int) then ((pleachref31_Of.f k1 (a0.extract 0 (x5_1 : Int).toNat) (a0.extract ((ji8) : Int).toNat a0.size)).bind fun bt101 => (if bt101.2 = true then (if bt101.1.toList = a0.toList then (some (a0.extract 0 (x5_1 : Int).toNat, a0.extract ((ji8) : Int).toNat a0.size, true)) else (some ((⟨#[]⟩ : ByteArray), (⟨#[]⟩ : ByteArray), false))) else (some ((⟨#[]⟩ : ByteArray), (⟨#[]⟩ : ByteArray), false)))) else (none)) else (none)) = some (r1, r2, r3) := by first | (rw [hji8] at H; exact H) | (simp only [hji8] at H ⊢; exact H)
              have hji8w : (IntKind.i64.wrap (x5_1 + 1)) = ji8 := (i64_w _).trans hji8
              by_cases c9 : 0 ≤ (ji8)
              · rw [if_pos c9] at H
                have c9b0 := eq_true c9
                have c9b1 : decide (0 ≤ (ji8)) = true := decide_eq_true c9
                clear c9
                by_cases c10 : (ji8) ≤ (a0.size : Int)
                · rw [if_pos c10] at H
                  have c10b0 := eq_true c10
                  have c10b1 : decide ((ji8) ≤ (a0.size : Int)) = true := decide_eq_true c10
                  clear c10
                  replace H := Option.bind_eq_some_iff.mp H
                  obtain ⟨⟨t101, t102⟩, A110, H⟩ := H
                  replace H : (if t102 = true then (if t101.toList = a0.toList then (some (a0.extract 0 (x5_1 : Int).toNat, a0.extract ((ji8) : Int).toNat a0.size, true)) else (some ((⟨#[]⟩ : ByteArray), (⟨#[]⟩ : ByteArray), false))) else (some ((⟨#[]⟩ : ByteArray), (⟨#[]⟩ : ByteArray), false))) = some (r1, r2, r3) := H
                  have A11 := Aside0.mk A110
                  clear A110
                  by_cases c12 : t102 = true
                  · subst c12
                    have H1 : (if t101.toList = a0.toList then (some (a0.extract 0 (x5_1 : Int).toNat, a0.extract ((ji8) : Int).toNat a0.size, true)) else (some ((⟨#[]⟩ : ByteArray), (⟨#[]⟩ : ByteArray), false))) = some (r1, r2, r3) := by rw [if_pos rfl] at H; exact H
                    clear H
                    have H := H1
                    clear H1
                    by_cases c13 : t101.toList = a0.toList
                    · rw [if_pos c13] at H
                      have c13b0 : (t101.toList == a0.toList) = true := beq_iff_eq.mpr c13
                      have c13b1 : (t101.toList != a0.toList) = false := bne_eq_false_iff_eq.mpr c13
                      clear c13
                      have c14b0 := eq_true (of_decide_eq_true (by first | (with_reducible assumption) | assumption) : 0 ≤ x5_1)
                      have c15b0 := eq_true (of_decide_eq_true (by first | (with_reducible assumption) | assumption) : x5_1 ≤ (a0.size : Int))
                      have c16b0 := eq_true (of_decide_eq_true (by first | (with_reducible assumption) | assumption) : 0 ≤ (ji8))
                      have c17b0 := eq_true (of_decide_eq_true (by first | (with_reducible assumption) | assumption) : (ji8) ≤ (a0.size : Int))
                      simp only [Option.some.injEq, Prod.mk.injEq] at H
                      obtain ⟨rfl, rfl, rfl⟩ := H
                      have p4 : 0 ≤ (x5_1 : Int) := of_decide_eq_true (by first | (with_reducible assumption) | assumption)
                      have q4 : x5_1 < (a0.size : Int) := of_decide_eq_true (by first | (with_reducible assumption) | assumption)
                      have hx4 := bt_at a0 x5_1
                      replace p4 := eq_true p4
                      replace q4 := eq_true q4
                      go_wp2_with (first | (go_at_call 24; (with_reducible refine (pleachref31_Of.calls k1 (a0.extract 0 (x5_1 : Int).toNat) (a0.extract ((ji8) : Int).toNat a0.size) t101 true _ A11.out).mono ?_); rintro e w' ⟨rfl, ⟨nd, rfl⟩⟩; (try first | exact ⟨rfl, _, World.drewN_drewN _ _ _⟩ | exact ⟨rfl, _, Eq.trans (World.drewN_drewN _ _ _) (congrArg (World.drewN _) (Nat.add_assoc _ _ _))⟩)))
                      repeat (go_quiet (first | (go_at_call 24; (with_reducible refine (pleachref31_Of.calls k1 (a0.extract 0 (x5_1 : Int).toNat) (a0.extract ((ji8) : Int).toNat a0.size) t101 true _ A11.out).mono ?_); rintro e w' ⟨rfl, ⟨nd, rfl⟩⟩; (try first | exact ⟨rfl, _, World.drewN_drewN _ _ _⟩ | exact ⟨rfl, _, Eq.trans (World.drewN_drewN _ _ _) (congrArg (World.drewN _) (Nat.add_assoc _ _ _))⟩))); try go_wp2_with (first | (go_at_call 24; (with_reducible refine (pleachref31_Of.calls k1 (a0.extract 0 (x5_1 : Int).toNat) (a0.extract ((ji8) : Int).toNat a0.size) t101 true _ A11.out).mono ?_); rintro e w' ⟨rfl, ⟨nd, rfl⟩⟩; (try first | exact ⟨rfl, _, World.drewN_drewN _ _ _⟩ | exact ⟨rfl, _, Eq.trans (World.drewN_drewN _ _ _) (congrArg (World.drewN _) (Nat.add_assoc _ _ _))⟩))))
                      go_ret3
                      exact ⟨by first | rfl | (simp; done) | (simp only [← hji8] <;> (first | rfl | simp)) | (simp [*]; done), by repeat (first | exact Drawn0.refl _ | apply Drawn0.step)⟩
                    · rw [if_neg c13] at H
                      have c13b0 : (t101.toList == a0.toList) = false := beq_eq_false_iff_ne.mpr c13
                      have c13b1 : (t101.toList != a0.toList) = true := bne_iff_ne.mpr c13
                      simp only [Option.some.injEq, Prod.mk.injEq] at H
                      obtain ⟨rfl, rfl, rfl⟩ := H
                      have p4 : 0 ≤ (x5_1 : Int) := of_decide_eq_true (by first | (with_reducible assumption) | assumption)
                      have q4 : x5_1 < (a0.size : Int) := of_decide_eq_true (by first | (with_reducible assumption) | assumption)
                      have hx4 := bt_at a0 x5_1
                      replace p4 := eq_true p4
                      replace q4 := eq_true q4
                      go_wp2_with (first | (go_at_call 24; (with_reducible refine (pleachref31_Of.calls k1 (a0.extract 0 (x5_1 : Int).toNat) (a0.extract ((ji8) : Int).toNat a0.size) t101 true _ A11.out).mono ?_); rintro e w' ⟨rfl, ⟨nd, rfl⟩⟩; (try first | exact ⟨rfl, _, World.drewN_drewN _ _ _⟩ | exact ⟨rfl, _, Eq.trans (World.drewN_drewN _ _ _) (congrArg (World.drewN _) (Nat.add_assoc _ _ _))⟩)))
                      repeat (go_quiet (first | (go_at_call 24; (with_reducible refine (pleachref31_Of.calls k1 (a0.extract 0 (x5_1 : Int).toNat) (a0.extract ((ji8) : Int).toNat a0.size) t101 true _ A11.out).mono ?_); rintro e w' ⟨rfl, ⟨nd, rfl⟩⟩; (try first | exact ⟨rfl, _, World.drewN_drewN _ _ _⟩ | exact ⟨rfl, _, Eq.trans (World.drewN_drewN _ _ _) (congrArg (World.drewN _) (Nat.add_assoc _ _ _))⟩))); try go_wp2_with (first | (go_at_call 24; (with_reducible refine (pleachref31_Of.calls k1 (a0.extract 0 (x5_1 : Int).toNat) (a0.extract ((ji8) : Int).toNat a0.size) t101 true _ A11.out).mono ?_); rintro e w' ⟨rfl, ⟨nd, rfl⟩⟩; (try first | exact ⟨rfl, _, World.drewN_drewN _ _ _⟩ | exact ⟨rfl, _, Eq.trans (World.drewN_drewN _ _ _) (congrArg (World.drewN _) (Nat.add_assoc _ _ _))⟩))))
                      go_ret3
                      exact ⟨by first | rfl | (simp; done) | (simp only [← hji8] <;> (first | rfl | simp)) | (simp [*]; done), by repeat (first | exact Drawn0.refl _ | apply Drawn0.step)⟩
                  · replace c12 := Bool.eq_false_iff.mpr c12
                    subst c12
                    have H1 : (some ((⟨#[]⟩ : ByteArray), (⟨#[]⟩ : ByteArray), false)) = some (r1, r2, r3) := by rw [if_neg (show ¬ (false = true) by decide)] at H; exact H
                    clear H
                    have H := H1
                    clear H1
                    simp only [Option.some.injEq, Prod.mk.injEq] at H
                    obtain ⟨rfl, rfl, rfl⟩ := H
                    have p4 : 0 ≤ (x5_1 : Int) := of_decide_eq_true (by first | (with_reducible assumption) | assumption)
                    have q4 : x5_1 < (a0.size : Int) := of_decide_eq_true (by first | (with_reducible assumption) | assumption)
                    have hx4 := bt_at a0 x5_1
                    replace p4 := eq_true p4
                    replace q4 := eq_true q4
                    go_wp2_with (first | (go_at_call 24; (with_reducible refine (pleachref31_Of.calls k1 (a0.extract 0 (x5_1 : Int).toNat) (a0.extract ((ji8) : Int).toNat a0.size) t101 false _ A11.out).mono ?_); rintro e w' ⟨rfl, ⟨nd, rfl⟩⟩; (try first | exact ⟨rfl, _, World.drewN_drewN _ _ _⟩ | exact ⟨rfl, _, Eq.trans (World.drewN_drewN _ _ _) (congrArg (World.drewN _) (Nat.add_assoc _ _ _))⟩)))
                    repeat (go_quiet (first | (go_at_call 24; (with_reducible refine (pleachref31_Of.calls k1 (a0.extract 0 (x5_1 : Int).toNat) (a0.extract ((ji8) : Int).toNat a0.size) t101 false _ A11.out).mono ?_); rintro e w' ⟨rfl, ⟨nd, rfl⟩⟩; (try first | exact ⟨rfl, _, World.drewN_drewN _ _ _⟩ | exact ⟨rfl, _, Eq.trans (World.drewN_drewN _ _ _) (congrArg (World.drewN _) (Nat.add_assoc _ _ _))⟩))); try go_wp2_with (first | (go_at_call 24; (with_reducible refine (pleachref31_Of.calls k1 (a0.extract 0 (x5_1 : Int).toNat) (a0.extract ((ji8) : Int).toNat a0.size) t101 false _ A11.out).mono ?_); rintro e w' ⟨rfl, ⟨nd, rfl⟩⟩; (try first | exact ⟨rfl, _, World.drewN_drewN _ _ _⟩ | exact ⟨rfl, _, Eq.trans (World.drewN_drewN _ _ _) (congrArg (World.drewN _) (Nat.add_assoc _ _ _))⟩))))
                    go_ret3
                    exact ⟨by first | rfl | (simp; done) | (simp only [← hji8] <;> (first | rfl | simp)) | (simp [*]; done), by repeat (first | exact Drawn0.refl _ | apply Drawn0.step)⟩
                · rw [if_neg c10] at H
                  exact absurd H (by simp)
              · rw [if_neg c9] at H
                exact absurd H (by simp)
            · rw [if_neg c7] at H
              exact absurd H (by simp)
          · rw [if_neg c5] at H
            have c5b0 : ((bt a0 x5_1) == 0) = false := beq_eq_false_iff_ne.mpr c5
            have c5b1 : ((bt a0 x5_1) != 0) = true := bne_iff_ne.mpr c5
            have H' := Aside0.mk H
            clear H
            have p4 : 0 ≤ (x5_1 : Int) := of_decide_eq_true (by first | (with_reducible assumption) | assumption)
            have q4 : x5_1 < (a0.size : Int) := of_decide_eq_true (by first | (with_reducible assumption) | assumption)
            have hx4 := bt_at a0 x5_1
            replace p4 := eq_true p4
            replace q4 := eq_true q4
            go_wp2
            repeat (go_quiet (fail); try go_wp2)
            go_roundg k1
            case measure => have := HK1.out; omega
            case rel => exact ⟨(wrap64 (x5_1 + 1)), (by first | rfl | (simp; done) | (simp [*]; done)), H', ⟨by have := HK1.out; omega⟩, by repeat (first | exact Drawn0.refl _ | apply Drawn0.step)⟩
        · rw [if_neg c3] at H
          exact absurd H (by simp)
      · rw [if_neg c2] at H
        have c2b0 : decide (x5_1 < (a0.size : Int)) = false := decide_eq_false c2
        clear c2
        simp only [Option.some.injEq, Prod.mk.injEq] at H
        obtain ⟨rfl, rfl, rfl⟩ := H
        go_wp2
        repeat (go_quiet (fail); try go_wp2)
        go_ret3
        exact ⟨by first | rfl | (simp; done) | (simp [*]; done), by repeat (first | exact Drawn0.refl _ | apply Drawn0.step)⟩

end Go.Proofs.Ytmnadajjgnniaaa.MA
end
section
namespace Go.Proofs.Ytmnadajjgnniaaa.MA
open Go.RowKit Go.Proofs.YtmnadajjgnniaaaW.PrintWords Go.Proofs.YtmnadajjgnniaaaW.PrintLast Go.Proofs.YtmnadajjgnniaaaW.PrintMore
attribute [local go_sem] max2_int min2_int max_two min_two max_three min_three max_four min_four   -- for this text's walks alone
set_option linter.unusedVariables false
set_option linter.unusedSimpArgs false

def keys_Begin.f (a0 : ByteArray) : Option (ByteArray) := if a0.size + 1 ≤ 9223372036854775807 then (some (a0 ++ (⟨#[0]⟩ : ByteArray))) else (none)
set_option maxHeartbeats 8000000 in
set_option maxRecDepth 100000 in
theorem keys_Begin.calls (a0 : ByteArray) (r : ByteArray) (w : World) (h : keys_Begin.f a0 = some r) :
    Calls Try.prog 27 #[.string a0] w fun e w' => e = .returned (.string r) ∧ Drawn0 w w' := by
  have H : (if a0.size + 1 ≤ 9223372036854775807 then (some (a0 ++ (⟨#[0]⟩ : ByteArray))) else (none)) = some r := h
  clear h
  by_cases c2 : a0.size + 1 ≤ 9223372036854775807
  · rw [if_pos c2] at H
    have c2b0 := eq_true c2
    have c2b1 : decide (a0.size + 1 ≤ 9223372036854775807) = true := decide_eq_true c2
    try have c2b2 : (9223372036854775807 < a0.size + 1) = False := eq_false (Nat.not_lt.2 c2)
    obtain rfl := Option.some.inj H
    go_enter Try.func27, Try.ntmps27
    go_wp2
    go_ret
    exact ⟨by first | rfl | (simp; done) | (simp [*]; done), by repeat (first | exact Drawn0.refl _ | apply Drawn0.step)⟩
  · rw [if_neg c2] at H
    exact absurd H (by simp)

end Go.Proofs.Ytmnadajjgnniaaa.MA
end
section
namespace Go.Proofs.Ytmnadajjgnniaaa.MA
open Go.RowKit Go.Proofs.YtmnadajjgnniaaaW.PrintWords Go.Proofs.YtmnadajjgnniaaaW.PrintLast Go.Proofs.YtmnadajjgnniaaaW.PrintMore
attribute [local go_sem] max2_int min2_int max_two min_two max_three min_three max_four min_four   -- for this text's walks alone
set_option linter.unusedVariables false
set_option linter.unusedSimpArgs false

mutual
def pleachlaw31_KeysOf.j0 : Nat → ByteArray → ByteArray → ByteArray → Bool → Option (Bool)
  | 0, _, _, _, _ => none
  | k + 1, x0, x1, x2, x29 => if x29 = true then ((pleachlaw31_awake.f k).bind fun t101 => (some t101)) else ((keys_Of.f k x0 x1).bind fun bt102 => ((pleachref31_Of.f k x0 x1).bind fun bt104 => ((keys_Parted.f k x2).bind fun bt106 => ((pleachref31_Parted.f k x2).bind fun bt109 => (if bt102.1.toList = bt104.1.toList then (if ((bt102.2 == 0) != bt104.2) = true then (pleachlaw31_KeysOf.j1 k x0 x1 bt102.1 bt104.2 true) else (if bt104.2 = true then (if bt106.1.toList = bt109.1.toList then (if bt106.2.1.toList = bt109.2.1.toList then (if ((bt106.2.2 == 0) != bt109.2.2) = true then (pleachlaw31_KeysOf.j1 k x0 x1 bt102.1 bt104.2 true) else (if bt109.2.2 = true then ((keys_Begin.f x0).bind fun t112 => (if x0.size + 1 ≤ 9223372036854775807 then (pleachlaw31_KeysOf.j1 k x0 x1 bt102.1 bt104.2 (t112.toList != (x0 ++ (⟨#[0]⟩ : ByteArray)).toList)) else (none))) else (if bt106.2.2 = 3 then ((keys_Begin.f x0).bind fun t113 => (if x0.size + 1 ≤ 9223372036854775807 then (pleachlaw31_KeysOf.j1 k x0 x1 bt102.1 bt104.2 (t113.toList != (x0 ++ (⟨#[0]⟩ : ByteArray)).toList)) else (none))) else (pleachlaw31_KeysOf.j1 k x0 x1 bt102.1 bt104.2 true)))) else (pleachlaw31_KeysOf.j1 k x0 x1 bt102.1 bt104.2 true)) else (pleachlaw31_KeysOf.j1 k x0 x1 bt102.1 bt104.2 true)) else (if bt102.2 = 2 then (if bt106.1.toList = bt109.1.toList then (if bt106.2.1.toList = bt109.2.1.toList then (if ((bt106.2.2 == 0) != bt109.2.2) = true then (pleachlaw31_KeysOf.j1 k x0 x1 bt102.1 bt104.2 true) else (if bt109.2.2 = true then ((keys_Begin.f x0).bind fun t114 => (if x0.size + 1 ≤ 9223372036854775807 then (pleachlaw31_KeysOf.j1 k x0 x1 bt102.1 bt104.2 (t114.toList != (x0 ++ (⟨#[0]⟩ : ByteArray)).toList)) else (none))) else (if bt106.2.2 = 3 then ((keys_Begin.f x0).bind fun t115 => (if x0.size + 1 ≤ 9223372036854775807 then (pleachlaw31_KeysOf.j1 k x0 x1 bt102.1 bt104.2 (t115.toList != (x0 ++ (⟨#[0]⟩ : ByteArray)).toList)) else (none))) else (pleachlaw31_KeysOf.j1 k x0 x1 bt102.1 bt104.2 true)))) else (pleachlaw31_KeysOf.j1 k x0 x1 bt102.1 bt104.2 true)) else (pleachlaw31_KeysOf.j1 k x0 x1 bt102.1 bt104.2 true)) else (pleachlaw31_KeysOf.j1 k x0 x1 bt102.1 bt104.2 true)))) else (pleachlaw31_KeysOf.j1 k x0 x1 bt102.1 bt104.2 true))))))
def pleachlaw31_KeysOf.j1 : Nat → ByteArray → ByteArray → ByteArray → Bool → Bool → Option (Bool)
  | 0, _, _, _, _, _ => none
  | k + 1, x0, x1, x7, x10, x102 => if x102 = true then (some false) else (if x10 = true then ((keys_Parted.f k x7).bind fun bt116 => (if bt116.1.toList = x0.toList then (if bt116.2.1.toList = x1.toList then (if bt116.2.2 = 0 then ((pleachlaw31_awake.f k).bind fun t119 => (some t119)) else (some false)) else (some false)) else (some false))) else ((pleachlaw31_awake.f k).bind fun t120 => (some t120)))
end
def pleachlaw31_KeysOf.f (k : Nat) (a0 : ByteArray) (a1 : ByteArray) (a2 : ByteArray) : Option (Bool) := if (a0.size : Int) > 100 then (pleachlaw31_KeysOf.j0 k a0 a1 a2 true) else (if (a1.size : Int) > 100 then (pleachlaw31_KeysOf.j0 k a0 a1 a2 true) else (pleachlaw31_KeysOf.j0 k a0 a1 a2 (decide ((a2.size : Int) > 300))))
theorem pleachlaw31_KeysOf.mono_l : ∀ k, (∀ y0 y1 y2 y3, LeO (pleachlaw31_KeysOf.j0 k y0 y1 y2 y3) (pleachlaw31_KeysOf.j0 (k + 1) y0 y1 y2 y3)) ∧ (∀ y0 y1 y2 y3 y4, LeO (pleachlaw31_KeysOf.j1 k y0 y1 y2 y3 y4) (pleachlaw31_KeysOf.j1 (k + 1) y0 y1 y2 y3 y4))
  | 0 => ⟨fun _ _ _ _ r h => by simp [pleachlaw31_KeysOf.j0] at h, fun _ _ _ _ _ r h => by simp [pleachlaw31_KeysOf.j1] at h⟩
  | k + 1 => by
    obtain ⟨ih0, ih1⟩ := pleachlaw31_KeysOf.mono_l k
    refine ⟨?_, ?_⟩
    · intro y0 y1 y2 y3
      unfold pleachlaw31_KeysOf.j0
      repeat' first
      | (with_reducible exact ih0 _ _ _ _)
      | (with_reducible exact ih1 _ _ _ _ _)
      | (with_reducible exact keys_Of.mono _ _ _)
      | (with_reducible exact keys_Parted.mono _ _)
      | (with_reducible exact pleachlaw31_awake.mono _)
      | (with_reducible exact pleachref31_Of.mono _ _ _)
      | (with_reducible exact pleachref31_Parted.mono _ _)
      | (with_reducible exact LeO.refl _)
      | (with_reducible exact LeO.none _)
      | (with_reducible refine LeO.ite ?_ ?_)
      | (with_reducible refine LeO.bind ?_ (fun _ => ?_))
      | exact ih0 _ _ _ _
      | exact ih1 _ _ _ _ _
      | exact keys_Of.mono _ _ _
      | exact keys_Parted.mono _ _
      | exact pleachlaw31_awake.mono _
      | exact pleachref31_Of.mono _ _ _
      | exact pleachref31_Parted.mono _ _
      | exact LeO.none _
      | refine LeO.ite ?_ ?_
      | refine LeO.bind ?_ (fun _ => ?_)
    · intro y0 y1 y2 y3 y4
      unfold pleachlaw31_KeysOf.j1
      repeat' first
      | (with_reducible exact ih0 _ _ _ _)
      | (with_reducible exact ih1 _ _ _ _ _)
      | (with_reducible exact keys_Of.mono _ _ _)
      | (with_reducible exact keys_Parted.mono _ _)
      | (with_reducible exact pleachlaw31_awake.mono _)
      | (with_reducible exact pleachref31_Of.mono _ _ _)
      | (with_reducible exact pleachref31_Parted.mono _ _)
      | (with_reducible exact LeO.refl _)
      | (with_reducible exact LeO.none _)
      | (with_reducible refine LeO.ite ?_ ?_)
      | (with_reducible refine LeO.bind ?_ (fun _ => ?_))
      | exact ih0 _ _ _ _
      | exact ih1 _ _ _ _ _
      | exact keys_Of.mono _ _ _
      | exact keys_Parted.mono _ _
      | exact pleachlaw31_awake.mono _
      | exact pleachref31_Of.mono _ _ _
      | exact pleachref31_Parted.mono _ _
      | exact LeO.none _
      | refine LeO.ite ?_ ?_
      | refine LeO.bind ?_ (fun _ => ?_)
theorem pleachlaw31_KeysOf.mono : ∀ a0 a1 a2 k, LeO (pleachlaw31_KeysOf.f k a0 a1 a2) (pleachlaw31_KeysOf.f (k + 1) a0 a1 a2) := by
  intro a0 a1 a2 k
  obtain ⟨ih0, ih1⟩ := pleachlaw31_KeysOf.mono_l k
  unfold pleachlaw31_KeysOf.f
  repeat' first
      | (with_reducible exact ih0 _ _ _ _)
      | (with_reducible exact ih1 _ _ _ _ _)
      | (with_reducible exact keys_Of.mono _ _ _)
      | (with_reducible exact keys_Parted.mono _ _)
      | (with_reducible exact pleachlaw31_awake.mono _)
      | (with_reducible exact pleachref31_Of.mono _ _ _)
      | (with_reducible exact pleachref31_Parted.mono _ _)
      | (with_reducible exact LeO.refl _)
      | (with_reducible exact LeO.none _)
      | (with_reducible refine LeO.ite ?_ ?_)
      | (with_reducible refine LeO.bind ?_ (fun _ => ?_))
      | exact ih0 _ _ _ _
      | exact ih1 _ _ _ _ _
      | exact keys_Of.mono _ _ _
      | exact keys_Parted.mono _ _
      | exact pleachlaw31_awake.mono _
      | exact pleachref31_Of.mono _ _ _
      | exact pleachref31_Parted.mono _ _
      | exact LeO.none _
      | refine LeO.ite ?_ ?_
      | refine LeO.bind ?_ (fun _ => ?_)
set_option maxHeartbeats 8000000 in
set_option maxRecDepth 100000 in
theorem pleachlaw31_KeysOf.calls (k : Nat) (a0 : ByteArray) (a1 : ByteArray) (a2 : ByteArray) (r : Bool) (w : World) (h : pleachlaw31_KeysOf.f k a0 a1 a2 = some r) :
    Calls Try.prog 5 #[.string a0, .string a1, .string a2] w fun e w' => e = .returned (.bool r) ∧ Drawn0 w w' := by
  have H : (if (a0.size : Int) > 100 then (pleachlaw31_KeysOf.j0 k a0 a1 a2 true) else (if (a1.size : Int) > 100 then (pleachlaw31_KeysOf.j0 k a0 a1 a2 true) else (pleachlaw31_KeysOf.j0 k a0 a1 a2 (decide ((a2.size : Int) > 300))))) = some r := h
  clear h
  have HC4 := Aside0.mk H
  clear H
  go_enter Try.func5, Try.ntmps5
  go_upto_region 1 with (fail)
  go_cut [29] (fun v29 wc => ∃ (kq : Nat) (x29_3 : Bool), v29 = .bool x29_3 ∧ Aside0 (pleachlaw31_KeysOf.j0 kq a0 a1 a2 x29_3 = some r) ∧ Aside0 (kq ≤ k) ∧ Drawn0 w wc)
  case first =>
    have H := HC4.out
    clear HC4
    by_cases c5 : (a0.size : Int) > 100
    · rw [if_pos c5] at H
      have c5b0 : decide (100 < (a0.size : Int)) = true := decide_eq_true c5
      have c5b1 : decide (100 < a0.size) = true := decide_eq_true (by omega)
      clear c5
      (first | rw [c5b0] | (simp only [i64_w, i32_w]; rw [c5b0]) | skip)
      have H' := Aside0.mk H
      clear H
      go_wp2
      go_meet
      case rel => exact ⟨_, (true), (by first | rfl | (simp; done) | (simp [*]; done)), H', ⟨by first | omega | exact Nat.le_refl _⟩, by repeat (first | exact Drawn0.refl _ | apply Drawn0.step)⟩
    · rw [if_neg c5] at H
      have c5b0 : decide (100 < (a0.size : Int)) = false := decide_eq_false c5
      have c5b1 : decide (100 < a0.size) = false := decide_eq_false (by omega)
      clear c5
      (first | rw [c5b0] | (simp only [i64_w, i32_w]; rw [c5b0]) | skip)
      by_cases c6 : (a1.size : Int) > 100
      · rw [if_pos c6] at H
        have c6b0 : decide (100 < (a1.size : Int)) = true := decide_eq_true c6
        have c6b1 : decide (100 < a1.size) = true := decide_eq_true (by omega)
        clear c6
        have H' := Aside0.mk H
        clear H
        go_wp2
        go_meet
        case rel => exact ⟨_, (true), (by first | rfl | (simp; done) | (simp [*]; done)), H', ⟨by first | omega | exact Nat.le_refl _⟩, by repeat (first | exact Drawn0.refl _ | apply Drawn0.step)⟩
      · rw [if_neg c6] at H
        have c6b0 : decide (100 < (a1.size : Int)) = false := decide_eq_false c6
        have c6b1 : decide (100 < a1.size) = false := decide_eq_false (by omega)
        clear c6
        have H' := Aside0.mk H
        clear H
        go_wp2
        go_meet
        case rel => exact ⟨_, (decide ((a2.size : Int) > 300)), (by first | rfl | (simp; done) | (simp [*]; done)), H', ⟨by first | omega | exact Nat.le_refl _⟩, by repeat (first | exact Drawn0.refl _ | apply Drawn0.step)⟩
  case rest =>
    clear HC4
    try clear p2
    try clear c5
    try clear c5b0
    try clear c5b1
    try clear c6
    try clear c6b0
    try clear c6b1
    obtain ⟨kq, x29_3, rfl, HA, HJ3, ⟨mc3, rfl⟩⟩ := hcut
    cases kq with
    | zero => exact absurd HA.out (by simp [pleachlaw31_KeysOf.j0])
    | succ kj3 =>
      have H := HA.out
      clear HA
      simp only [pleachlaw31_KeysOf.j0] at H
      by_cases c7 : x29_3 = true
      · subst c7
        have H1 : ((pleachlaw31_awake.f kj3).bind fun t101 => (some t101)) = some r := by rw [if_pos rfl] at H; exact H
        clear H
        have H := H1
        clear H1
        replace H := Option.bind_eq_some_iff.mp H
        obtain ⟨t101, A80, H⟩ := H
        replace H : (some t101) = some r := H
        have A8 := Aside0.mk A80
        clear A80
        obtain rfl := Option.some.inj H
        go_wp2_with (first | ((with_reducible refine gate_callee (f := 22) rfl ?_); refine goesL_ (some 30) rfl rfl Try.func22 (by kernel_rfl) rfl #[] rfl (by (try simp only [List.map_toArray, List.map_cons, List.map_nil]); first | done | rfl | (simp only [List.length_drop, List.length_take]; rfl)) ?_; (with_reducible refine (pleachlaw31_awake.calls kj3  t101 _ A8.out).mono ?_); rintro e w' ⟨rfl, ⟨nd, rfl⟩⟩; refine ⟨_, rfl, ?_⟩))
        go_ret
        exact ⟨by first | rfl | (simp; done) | (simp [*]; done), by repeat (first | exact Drawn0.refl _ | apply Drawn0.step)⟩
      · replace c7 := Bool.eq_false_iff.mpr c7
        subst c7
        have H1 : ((keys_Of.f kj3 a0 a1).bind fun bt102 => ((pleachref31_Of.f kj3 a0 a1).bind fun bt104 => ((keys_Parted.f kj3 a2).bind fun bt106 => ((pleachref31_Parted.f kj3 a2).bind fun bt109 => (if bt102.1.toList = bt104.1.toList then (if ((bt102.2 == 0) != bt104.2) = true then (pleachlaw31_KeysOf.j1 kj3 a0 a1 bt102.1 bt104.2 true) else (if bt104.2 = true then (if bt106.1.toList = bt109.1.toList then (if bt106.2.1.toList = bt109.2.1.toList then (if ((bt106.2.2 == 0) != bt109.2.2) = true then (pleachlaw31_KeysOf.j1 kj3 a0 a1 bt102.1 bt104.2 true) else (if bt109.2.2 = true then ((keys_Begin.f a0).bind fun t112 => (if a0.size + 1 ≤ 9223372036854775807 then (pleachlaw31_KeysOf.j1 kj3 a0 a1 bt102.1 bt104.2 (t112.toList != (a0 ++ (⟨#[0]⟩ : ByteArray)).toList)) else (none))) else (if bt106.2.2 = 3 then ((keys_Begin.f a0).bind fun t113 => (if a0.size + 1 ≤ 9223372036854775807 then (pleachlaw31_KeysOf.j1 kj3 a0 a1 bt102.1 bt104.2 (t113.toList != (a0 ++ (⟨#[0]⟩ : ByteArray)).toList)) else (none))) else (pleachlaw31_KeysOf.j1 kj3 a0 a1 bt102.1 bt104.2 true)))) else (pleachlaw31_KeysOf.j1 kj3 a0 a1 bt102.1 bt104.2 true)) else (pleachlaw31_KeysOf.j1 kj3 a0 a1 bt102.1 bt104.2 true)) else (if bt102.2 = 2 then (if bt106.1.toList = bt109.1.toList then (if bt106.2.1.toList = bt109.2.1.toList then (if ((bt106.2.2 == 0) != bt109.2.2) = true then (pleachlaw31_KeysOf.j1 kj3 a0 a1 bt102.1 bt104.2 true) else (if bt109.2.2 = true then ((keys_Begin.f a0).bind fun t114 => (if a0.size + 1 ≤ 9223372036854775807 then (pleachlaw31_KeysOf.j1 kj3 a0 a1 bt102.1 bt104.2 (t114.toList != (a0 ++ (⟨#[0]⟩ : ByteArray)).toList)) else (none))) else (if bt106.2.2 = 3 then ((keys_Begin.f a0).bind fun t115 => (if a0.size + 1 ≤ 9223372036854775807 then (pleachlaw31_KeysOf.j1 kj3 a0 a1 bt102.1 bt104.2 (t115.toList != (a0 ++ (⟨#[0]⟩ : ByteArray)).toList)) else (none))) else (pleachlaw31_KeysOf.j1 kj3 a0 a1 bt102.1 bt104.2 true)))) else (pleachlaw31_KeysOf.j1 kj3 a0 a1 bt102.1 bt104.2 true)) else (pleachlaw31_KeysOf.j1 kj3 a0 a1 bt102.1 bt104.2 true)) else (pleachlaw31_KeysOf.j1 kj3 a0 a1 bt102.1 bt104.2 true)))) else (pleachlaw31_KeysOf.j1 kj3 a0 a1 bt102.1 bt104.2 true)))))) = some r := by rw [if_neg (show ¬ (false = true) by decide)] at H; exact H
        clear H
        have H := H1
        clear H1
        replace H := Option.bind_eq_some_iff.mp H
        obtain ⟨⟨t102, t103⟩, A90, H⟩ := H
        replace H : ((pleachref31_Of.f kj3 a0 a1).bind fun bt104 => ((keys_Parted.f kj3 a2).bind fun bt106 => ((pleachref31_Parted.f kj3 a2).bind fun bt109 => (if t102.toList = bt104.1.toList then (if ((t103 == 0) != bt104.2) = true then (pleachlaw31_KeysOf.j1 kj3 a0 a1 t102 bt104.2 true) else (if bt104.2 = true then (if bt106.1.toList = bt109.1.toList then (if bt106.2.1.toList = bt109.2.1.toList then (if ((bt106.2.2 == 0) != bt109.2.2) = true then (pleachlaw31_KeysOf.j1 kj3 a0 a1 t102 bt104.2 true) else (if bt109.2.2 = true then ((keys_Begin.f a0).bind fun t112 => (if a0.size + 1 ≤ 9223372036854775807 then (pleachlaw31_KeysOf.j1 kj3 a0 a1 t102 bt104.2 (t112.toList != (a0 ++ (⟨#[0]⟩ : ByteArray)).toList)) else (none))) else (if bt106.2.2 = 3 then ((keys_Begin.f a0).bind fun t113 => (if a0.size + 1 ≤ 9223372036854775807 then (pleachlaw31_KeysOf.j1 kj3 a0 a1 t102 bt104.2 (t113.toList != (a0 ++ (⟨#[0]⟩ : ByteArray)).toList)) else (none))) else (pleachlaw31_KeysOf.j1 kj3 a0 a1 t102 bt104.2 true)))) else (pleachlaw31_KeysOf.j1 kj3 a0 a1 t102 bt104.2 true)) else (pleachlaw31_KeysOf.j1 kj3 a0 a1 t102 bt104.2 true)) else (if t103 = 2 then (if bt106.1.toList = bt109.1.toList then (if bt106.2.1.toList = bt109.2.1.toList then (if ((bt106.2.2 == 0) != bt109.2.2) = true then (pleachlaw31_KeysOf.j1 kj3 a0 a1 t102 bt104.2 true) else (if bt109.2.2 = true then ((keys_Begin.f a0).bind fun t114 => (if a0.size + 1 ≤ 9223372036854775807 then (pleachlaw31_KeysOf.j1 kj3 a0 a1 t102 bt104.2 (t114.toList != (a0 ++ (⟨#[0]⟩ : ByteArray)).toList)) else (none))) else (if bt106.2.2 = 3 then ((keys_Begin.f a0).bind fun t115 => (if a0.size + 1 ≤ 9223372036854775807 then (pleachlaw31_KeysOf.j1 kj3 a0 a1 t102 bt104.2 (t115.toList != (a0 ++ (⟨#[0]⟩ : ByteArray)).toList)) else (none))) else (pleachlaw31_KeysOf.j1 kj3 a0 a1 t102 bt104.2 true)))) else (pleachlaw31_KeysOf.j1 kj3 a0 a1 t102 bt104.2 true)) else (pleachlaw31_KeysOf.j1 kj3 a0 a1 t102 bt104.2 true)) else (pleachlaw31_KeysOf.j1 kj3 a0 a1 t102 bt104.2 true)))) else (pleachlaw31_KeysOf.j1 kj3 a0 a1 t102 bt104.2 true))))) = some r := H
        have A9 := Aside0.mk A90
        clear A90
        replace H := Option.bind_eq_some_iff.mp H
        obtain ⟨⟨t104, t105⟩, A100, H⟩ := H
        replace H : ((keys_Parted.f kj3 a2).bind fun bt106 => ((pleachref31_Parted.f kj3 a2).bind fun bt109 => (if t102.toList = t104.toList then (if ((t103 == 0) != t105) = true then (pleachlaw31_KeysOf.j1 kj3 a0 a1 t102 t105 true) else (if t105 = true then (if bt106.1.toList = bt109.1.toList then (if bt106.2.1.toList = bt109.2.1.toList then (if ((bt106.2.2 == 0) != bt109.2.2) = true then (pleachlaw31_KeysOf.j1 kj3 a0 a1 t102 t105 true) else (if bt109.2.2 = true then ((keys_Begin.f a0).bind fun t112 => (if a0.size + 1 ≤ 9223372036854775807 then (pleachlaw31_KeysOf.j1 kj3 a0 a1 t102 t105 (t112.toList != (a0 ++ (⟨#[0]⟩ : ByteArray)).toList)) else (none))) else (if bt106.2.2 = 3 then ((keys_Begin.f a0).bind fun t113 => (if a0.size + 1 ≤ 9223372036854775807 then (pleachlaw31_KeysOf.j1 kj3 a0 a1 t102 t105 (t113.toList != (a0 ++ (⟨#[0]⟩ : ByteArray)).toList)) else (none))) else (pleachlaw31_KeysOf.j1 kj3 a0 a1 t102 t105 true)))) else (pleachlaw31_KeysOf.j1 kj3 a0 a1 t102 t105 true)) else (pleachlaw31_KeysOf.j1 kj3 a0 a1 t102 t105 true)) else (if t103 = 2 then (if bt106.1.toList = bt109.1.toList then (if bt106.2.1.toList = bt109.2.1.toList then (if ((bt106.2.2 == 0) != bt109.2.2) = true then (pleachlaw31_KeysOf.j1 kj3 a0 a1 t102 t105 true) else (if bt109.2.2 = true then ((keys_Begin.f a0).bind fun t114 => (if a0.size + 1 ≤ 9223372036854775807 then (pleachlaw31_KeysOf.j1 kj3 a0 a1 t102 t105 (t114.toList != (a0 ++ (⟨#[0]⟩ : ByteArray)).toList)) else (none))) else (if bt106.2.2 = 3 then ((keys_Begin.f a0).bind fun t115 => (if a0.size + 1 ≤ 9223372036854775807 then (pleachlaw31_KeysOf.j1 kj3 a0 a1 t102 t105 (t115.toList != (a0 ++ (⟨#[0]⟩ : ByteArray)).toList)) else (none))) else (pleachlaw31_KeysOf.j1 kj3 a0 a1 t102 t105 true)))) else (pleachlaw31_KeysOf.j1 kj3 a0 a1 t102 t105 true)) else (pleachlaw31_KeysOf.j1 kj3 a0 a1 t102 t105 true)) else (pleachlaw31_KeysOf.j1 kj3 a0 a1 t102 t105 true)))) else (pleachlaw31_KeysOf.j1 kj3 a0 a1 t102 t105 true)))) = some r := H
        have A10 := Aside0.mk A100
        clear A100
        replace H := Option.bind_eq_some_iff.mp H
        obtain ⟨⟨t106, t107, t108⟩, A110, H⟩ := H
        replace H : ((pleachref31_Parted.f kj3 a2).bind fun bt109 => (if t102.toList = t104.toList then (if ((t103 == 0) != t105) = true then (pleachlaw31_KeysOf.j1 kj3 a0 a1 t102 t105 true) else (if t105 = true then (if t106.toList = bt109.1.toList then (if t107.toList = bt109.2.1.toList then (if ((t108 == 0) != bt109.2.2) = true then (pleachlaw31_KeysOf.j1 kj3 a0 a1 t102 t105 true) else (if bt109.2.2 = true then ((keys_Begin.f a0).bind fun t112 => (if a0.size + 1 ≤ 9223372036854775807 then (pleachlaw31_KeysOf.j1 kj3 a0 a1 t102 t105 (t112.toList != (a0 ++ (⟨#[0]⟩ : ByteArray)).toList)) else (none))) else (if t108 = 3 then ((keys_Begin.f a0).bind fun t113 => (if a0.size + 1 ≤ 9223372036854775807 then (pleachlaw31_KeysOf.j1 kj3 a0 a1 t102 t105 (t113.toList != (a0 ++ (⟨#[0]⟩ : ByteArray)).toList)) else (none))) else (pleachlaw31_KeysOf.j1 kj3 a0 a1 t102 t105 true)))) else (pleachlaw31_KeysOf.j1 kj3 a0 a1 t102 t105 true)) else (pleachlaw31_KeysOf.j1 kj3 a0 a1 t102 t105 true)) else (if t103 = 2 then (if t106.toList = bt109.1.toList then (if t107.toList = bt109.2.1.toList then (if ((t108 == 0) != bt109.2.2) = true then (pleachlaw31_KeysOf.j1 kj3 a0 a1 t102 t105 true) else (if bt109.2.2 = true then ((keys_Begin.f a0).bind fun t114 => (if a0.size + 1 ≤ 9223372036854775807 then (pleachlaw31_KeysOf.j1 kj3 a0 a1 t102 t105 (t114.toList != (a0 ++ (⟨#[0]⟩ : ByteArray)).toList)) else (none))) else (if t108 = 3 then ((keys_Begin.f a0).bind fun t115 => (if a0.size + 1 ≤ 9223372036854775807 then (pleachlaw31_KeysOf.j1 kj3 a0 a1 t102 t105 (t115.toList != (a0 ++ (⟨#[0]⟩ : ByteArray)).toList)) else (none))) else (pleachlaw31_KeysOf.j1 kj3 a0 a1 t102 t105 true)))) else (pleachlaw31_KeysOf.j1 kj3 a0 a1 t102 t105 true)) else (pleachlaw31_KeysOf.j1 kj3 a0 a1 t102 t105 true)) else (pleachlaw31_KeysOf.j1 kj3 a0 a1 t102 t105 true)))) else (pleachlaw31_KeysOf.j1 kj3 a0 a1 t102 t105 true))) = some r := H
        have A11 := Aside0.mk A110
        clear A110
        replace H := Option.bind_eq_some_iff.mp H
        obtain ⟨⟨t109, t110, t111⟩, A120, H⟩ := H
        replace H : (if t102.toList = t104.toList then (if ((t103 == 0) != t105) = true then (pleachlaw31_KeysOf.j1 kj3 a0 a1 t102 t105 true) else (if t105 = true then (if t106.toList = t109.toList then (if t107.toList = t110.toList then (if ((t108 == 0) != t111) = true then (pleachlaw31_KeysOf.j1 kj3 a0 a1 t102 t105 true) else (if t111 = true then ((keys_Begin.f a0).bind fun t112 => (if a0.size + 1 ≤ 9223372036854775807 then (pleachlaw31_KeysOf.j1 kj3 a0 a1 t102 t105 (t112.toList != (a0 ++ (⟨#[0]⟩ : ByteArray)).toList)) else (none))) else (if t108 = 3 then ((keys_Begin.f a0).bind fun t113 => (if a0.size + 1 ≤ 9223372036854775807 then (pleachlaw31_KeysOf.j1 kj3 a0 a1 t102 t105 (t113.toList != (a0 ++ (⟨#[0]⟩ : ByteArray)).toList)) else (none))) else (pleachlaw31_KeysOf.j1 kj3 a0 a1 t102 t105 true)))) else (pleachlaw31_KeysOf.j1 kj3 a0 a1 t102 t105 true)) else (pleachlaw31_KeysOf.j1 kj3 a0 a1 t102 t105 true)) else (if t103 = 2 then (if t106.toList = t109.toList then (if t107.toList = t110.toList then (if ((t108 == 0) != t111) = true then (pleachlaw31_KeysOf.j1 kj3 a0 a1 t102 t105 true) else (if t111 = true then ((keys_Begin.f a0).bind fun t114 => (if a0.size + 1 ≤ 9223372036854775807 then (pleachlaw31_KeysOf.j1 kj3 a0 a1 t102 t105 (t114.toList != (a0 ++ (⟨#[0]⟩ : ByteArray)).toList)) else (none))) else (if t108 = 3 then ((keys_Begin.f a0).bind fun t115 => (if a0.size + 1 ≤ 9223372036854775807 then (pleachlaw31_KeysOf.j1 kj3 a0 a1 t102 t105 (t115.toList != (a0 ++ (⟨#[0]⟩ : ByteArray)).toList)) else (none))) else (pleachlaw31_KeysOf.j1 kj3 a0 a1 t102 t105 true)))) else (pleachlaw31_KeysOf.j1 kj3 a0 a1 t102 t105 true)) else (pleachlaw31_KeysOf.j1 kj3 a0 a1 t102 t105 true)) else (pleachlaw31_KeysOf.j1 kj3 a0 a1 t102 t105 true)))) else (pleachlaw31_KeysOf.j1 kj3 a0 a1 t102 t105 true)) = some r := H
        have A12 := Aside0.mk A120
        clear A120
        have HC13 := Aside0.mk H
        clear H
        go_upto_region 7 with (first | ((with_reducible refine gate_callee (f := 23) rfl ?_); refine goesL_ (some 34) rfl rfl Try.func23 (by kernel_rfl) rfl #[.string a0, .string a1] rfl (by (try simp only [List.map_toArray, List.map_cons, List.map_nil]); first | done | rfl | (simp only [List.length_drop, List.length_take]; rfl)) ?_; (with_reducible refine (keys_Of.calls kj3 a0 a1 t102 t103 _ A9.out).mono ?_); rintro e w' ⟨rfl, ⟨nd, rfl⟩⟩; refine ⟨_, rfl, ?_⟩) | ((with_reducible refine gate_callee (f := 24) rfl ?_); refine goesL_ (some 40) rfl rfl Try.func24 (by kernel_rfl) rfl #[.string a0, .string a1] rfl (by (try simp only [List.map_toArray, List.map_cons, List.map_nil]); first | done | rfl | (simp only [List.length_drop, List.length_take]; rfl)) ?_; (with_reducible refine (pleachref31_Of.calls kj3 a0 a1 t104 t105 _ A10.out).mono ?_); rintro e w' ⟨rfl, ⟨nd, rfl⟩⟩; refine ⟨_, rfl, ?_⟩) | ((with_reducible refine gate_callee (f := 25) rfl ?_); refine goesL_ (some 45) rfl rfl Try.func25 (by kernel_rfl) rfl #[.string a2] rfl (by (try simp only [List.map_toArray, List.map_cons, List.map_nil]); first | done | rfl | (simp only [List.length_drop, List.length_take]; rfl)) ?_; (with_reducible refine (keys_Parted.calls kj3 a2 t106 t107 t108 _ A11.out).mono ?_); rintro e w' ⟨rfl, ⟨nd, rfl⟩⟩; refine ⟨_, rfl, ?_⟩) | ((with_reducible refine gate_callee (f := 26) rfl ?_); refine goesL_ (some 51) rfl rfl Try.func26 (by kernel_rfl) rfl #[.string a2] rfl (by (try simp only [List.map_toArray, List.map_cons, List.map_nil]); first | done | rfl | (simp only [List.length_drop, List.length_take]; rfl)) ?_; (with_reducible refine (pleachref31_Parted.calls kj3 a2 t109 t110 t111 _ A12.out).mono ?_); rintro e w' ⟨rfl, ⟨nd, rfl⟩⟩; refine ⟨_, rfl, ?_⟩))
        (try simp only [Act.put, List.setIfInBounds_toArray, List.set_cons_zero, List.set_cons_succ])
        go_cut [102] (fun v102 wc => ∃ (kq : Nat) (x102_12 : Bool), v102 = .bool x102_12 ∧ Aside0 (pleachlaw31_KeysOf.j1 kq a0 a1 t102 t105 x102_12 = some r) ∧ Aside0 (kq ≤ kj3) ∧ Drawn0 w wc)
        case first =>
          have H := HC13.out
          clear HC13
          by_cases c14 : t102.toList = t104.toList
          · rw [if_pos c14] at H
            have c14b0 : (t102.toList == t104.toList) = true := beq_iff_eq.mpr c14
            have c14b1 : (t102.toList != t104.toList) = false := bne_eq_false_iff_eq.mpr c14
            clear c14
            (first | rw [c14b0] | (simp only [i64_w, i32_w]; rw [c14b0]) | skip)
            by_cases c15 : ((t103 == 0) != t105) = true
            · rw [if_pos c15] at H
              have c15b0 : ((t103 == 0) != t105) = true := c15
              (try (have c15b1 : decide ((t103 == 0) = t105) = false := by simpa using c15))
              (try (have c15b2 : ((t103 == 0) == t105) = false := by simpa using c15))
              (try (have c15b3 : ¬ ((t103 == 0) = t105) := by simpa using c15))
              clear c15
              have H' := Aside0.mk H
              clear H
              go_wp2
              go_meet
              case rel => exact ⟨_, (true), (by first | rfl | (simp; done) | (simp [*]; done)), H', ⟨by have := HJ3.out; first | omega | exact Nat.le_refl _⟩, by repeat (first | exact Drawn0.refl _ | apply Drawn0.step)⟩
            · rw [if_neg c15] at H
              have c15b0 : ((t103 == 0) != t105) = false := by simpa using c15
              (try (have c15b1 : decide ((t103 == 0) = t105) = true := by simpa using c15))
              (try (have c15b2 : ((t103 == 0) == t105) = true := by simpa using c15))
              clear c15
              by_cases c16 : t105 = true
              · subst c16
                have H1 : (if t106.toList = t109.toList then (if t107.toList = t110.toList then (if ((t108 == 0) != t111) = true then (pleachlaw31_KeysOf.j1 kj3 a0 a1 t102 true true) else (if t111 = true then ((keys_Begin.f a0).bind fun t112 => (if a0.size + 1 ≤ 9223372036854775807 then (pleachlaw31_KeysOf.j1 kj3 a0 a1 t102 true (t112.toList != (a0 ++ (⟨#[0]⟩ : ByteArray)).toList)) else (none))) else (if t108 = 3 then ((keys_Begin.f a0).bind fun t113 => (if a0.size + 1 ≤ 9223372036854775807 then (pleachlaw31_KeysOf.j1 kj3 a0 a1 t102 true (t113.toList != (a0 ++ (⟨#[0]⟩ : ByteArray)).toList)) else (none))) else (pleachlaw31_KeysOf.j1 kj3 a0 a1 t102 true true)))) else (pleachlaw31_KeysOf.j1 kj3 a0 a1 t102 true true)) else (pleachlaw31_KeysOf.j1 kj3 a0 a1 t102 true true)) = some r := by rw [if_pos rfl] at H; exact H
                clear H
                have H := H1
                clear H1
                by_cases c17 : t106.toList = t109.toList
                · rw [if_pos c17] at H
                  have c17b0 : (t106.toList == t109.toList) = true := beq_iff_eq.mpr c17
                  have c17b1 : (t106.toList != t109.toList) = false := bne_eq_false_iff_eq.mpr c17
                  clear c17
                  by_cases c18 : t107.toList = t110.toList
                  · rw [if_pos c18] at H
                    have c18b0 : (t107.toList == t110.toList) = true := beq_iff_eq.mpr c18
                    have c18b1 : (t107.toList != t110.toList) = false := bne_eq_false_iff_eq.mpr c18
                    clear c18
                    by_cases c19 : ((t108 == 0) != t111) = true
                    · rw [if_pos c19] at H
                      have c19b0 : ((t108 == 0) != t111) = true := c19
                      (try (have c19b1 : decide ((t108 == 0) = t111) = false := by simpa using c19))
                      (try (have c19b2 : ((t108 == 0) == t111) = false := by simpa using c19))
                      (try (have c19b3 : ¬ ((t108 == 0) = t111) := by simpa using c19))
                      clear c19
                      have H' := Aside0.mk H
                      clear H
                      go_wp2
                      go_meet
                      case rel => exact ⟨_, (true), (by first | rfl | (simp; done) | (simp [*]; done)), H', ⟨by have := HJ3.out; first | omega | exact Nat.le_refl _⟩, by repeat (first | exact Drawn0.refl _ | apply Drawn0.step)⟩
                    · rw [if_neg c19] at H
                      have c19b0 : ((t108 == 0) != t111) = false := by simpa using c19
                      (try (have c19b1 : decide ((t108 == 0) = t111) = true := by simpa using c19))
                      (try (have c19b2 : ((t108 == 0) == t111) = true := by simpa using c19))
                      clear c19
                      by_cases c20 : t111 = true
                      · subst c20
                        have H1 : ((keys_Begin.f a0).bind fun t112 => (if a0.size + 1 ≤ 9223372036854775807 then (pleachlaw31_KeysOf.j1 kj3 a0 a1 t102 true (t112.toList != (a0 ++ (⟨#[0]⟩ : ByteArray)).toList)) else (none))) = some r := by rw [if_pos rfl] at H; exact H
                        clear H
                        have H := H1
                        clear H1
                        replace H := Option.bind_eq_some_iff.mp H
                        obtain ⟨t112, A210, H⟩ := H
                        replace H : (if a0.size + 1 ≤ 9223372036854775807 then (pleachlaw31_KeysOf.j1 kj3 a0 a1 t102 true (t112.toList != (a0 ++ (⟨#[0]⟩ : ByteArray)).toList)) else (none)) = some r := H
                        have A21 := Aside0.mk A210
                        clear A210
                        by_cases c22 : a0.size + 1 ≤ 9223372036854775807
                        · rw [if_pos c22] at H
                          have c22b0 := eq_true c22
                          have c22b1 : decide (a0.size + 1 ≤ 9223372036854775807) = true := decide_eq_true c22
                          try have c22b2 : (9223372036854775807 < a0.size + 1) = False := eq_false (Nat.not_lt.2 c22)
                          have H' := Aside0.mk H
                          clear H
                          go_wp2_with (first | (go_at_call 27; (with_reducible refine (keys_Begin.calls a0 t112 _ A21.out).mono ?_); rintro e w' ⟨rfl, ⟨nd, rfl⟩⟩))
                          go_meet
                          case rel => exact ⟨_, ((t112.toList != (a0 ++ (⟨#[0]⟩ : ByteArray)).toList)), (by first | rfl | (simp; done) | (simp [*]; done)), H', ⟨by have := HJ3.out; first | omega | exact Nat.le_refl _⟩, by repeat (first | exact Drawn0.refl _ | apply Drawn0.step)⟩
                        · rw [if_neg c22] at H
                          exact absurd H (by simp)
                      · replace c20 := Bool.eq_false_iff.mpr c20
                        subst c20
                        have H1 : (if t108 = 3 then ((keys_Begin.f a0).bind fun t113 => (if a0.size + 1 ≤ 9223372036854775807 then (pleachlaw31_KeysOf.j1 kj3 a0 a1 t102 true (t113.toList != (a0 ++ (⟨#[0]⟩ : ByteArray)).toList)) else (none))) else (pleachlaw31_KeysOf.j1 kj3 a0 a1 t102 true true)) = some r := by rw [if_neg (show ¬ (false = true) by decide)] at H; exact H
                        clear H
                        have H := H1
                        clear H1
                        by_cases c23 : t108 = 3
                        · rw [if_pos c23] at H
                          have c23b0 : (t108 == 3) = true := beq_iff_eq.mpr c23
                          have c23b1 : (t108 != 3) = false := bne_eq_false_iff_eq.mpr c23
                          clear c23
                          replace H := Option.bind_eq_some_iff.mp H
                          obtain ⟨t113, A240, H⟩ := H
                          replace H : (if a0.size + 1 ≤ 9223372036854775807 then (pleachlaw31_KeysOf.j1 kj3 a0 a1 t102 true (t113.toList != (a0 ++ (⟨#[0]⟩ : ByteArray)).toList)) else (none)) = some r := H
                          have A24 := Aside0.mk A240
                          clear A240
                          by_cases c25 : a0.size + 1 ≤ 9223372036854775807
                          · rw [if_pos c25] at H
                            have c25b0 := eq_true c25
                            have c25b1 : decide (a0.size + 1 ≤ 9223372036854775807) = true := decide_eq_true c25
                            try have c25b2 : (9223372036854775807 < a0.size + 1) = False := eq_false (Nat.not_lt.2 c25)
                            have H' := Aside0.mk H
                            clear H
                            go_wp2_with (first | (go_at_call 27; (with_reducible refine (keys_Begin.calls a0 t113 _ A24.out).mono ?_); rintro e w' ⟨rfl, ⟨nd, rfl⟩⟩))
                            go_meet
                            case rel => exact ⟨_, ((t113.toList != (a0 ++ (⟨#[0]⟩ : ByteArray)).toList)), (by first | rfl | (simp; done) | (simp [*]; done)), H', ⟨by have := HJ3.out; first | omega | exact Nat.le_refl _⟩, by repeat (first | exact Drawn0.refl _ | apply Drawn0.step)⟩
                          · rw [if_neg c25] at H
                            exact absurd H (by simp)
                        · rw [if_neg c23] at H
                          have c23b0 : (t108 == 3) = false := beq_eq_false_iff_ne.mpr c23
                          have c23b1 : (t108 != 3) = true := bne_iff_ne.mpr c23
                          have H' := Aside0.mk H
                          clear H
                          go_wp2
                          go_meet
                          case rel => exact ⟨_, (true), (by first | rfl | (simp; done) | (simp [*]; done)), H', ⟨by have := HJ3.out; first | omega | exact Nat.le_refl _⟩, by repeat (first | exact Drawn0.refl _ | apply Drawn0.step)⟩
                  · rw [if_neg c18] at H
                    have c18b0 : (t107.toList == t110.toList) = false := beq_eq_false_iff_ne.mpr c18
                    have c18b1 : (t107.toList != t110.toList) = true := bne_iff_ne.mpr c18
                    have H' := Aside0.mk H
                    clear H
                    go_wp2
                    go_meet
                    case rel => exact ⟨_, (true), (by first | rfl | (simp; done) | (simp [*]; done)), H', ⟨by have := HJ3.out; first | omega | exact Nat.le_refl _⟩, by repeat (first | exact Drawn0.refl _ | apply Drawn0.step)⟩
                · rw [if_neg c17] at H
                  have c17b0 : (t106.toList == t109.toList) = false := beq_eq_false_iff_ne.mpr c17
                  have c17b1 : (t106.toList != t109.toList) = true := bne_iff_ne.mpr c17
                  have H' := Aside0.mk H
                  clear H
                  go_wp2
                  go_meet
                  case rel => exact ⟨_, (true), (by first | rfl | (simp; done) | (simp [*]; done)), H', ⟨by have := HJ3.out; first | omega | exact Nat.le_refl _⟩, by repeat (first | exact Drawn0.refl _ | apply Drawn0.step)⟩
              · replace c16 := Bool.eq_false_iff.mpr c16
                subst c16
                have H1 : (if t103 = 2 then (if t106.toList = t109.toList then (if t107.toList = t110.toList then (if ((t108 == 0) != t111) = true then (pleachlaw31_KeysOf.j1 kj3 a0 a1 t102 false true) else (if t111 = true then ((keys_Begin.f a0).bind fun t114 => (if a0.size + 1 ≤ 9223372036854775807 then (pleachlaw31_KeysOf.j1 kj3 a0 a1 t102 false (t114.toList != (a0 ++ (⟨#[0]⟩ : ByteArray)).toList)) else (none))) else (if t108 = 3 then ((keys_Begin.f a0).bind fun t115 => (if a0.size + 1 ≤ 9223372036854775807 then (pleachlaw31_KeysOf.j1 kj3 a0 a1 t102 false (t115.toList != (a0 ++ (⟨#[0]⟩ : ByteArray)).toList)) else (none))) else (pleachlaw31_KeysOf.j1 kj3 a0 a1 t102 false true)))) else (pleachlaw31_KeysOf.j1 kj3 a0 a1 t102 false true)) else (pleachlaw31_KeysOf.j1 kj3 a0 a1 t102 false true)) else (pleachlaw31_KeysOf.j1 kj3 a0 a1 t102 false true)) = some r := by rw [if_neg (show ¬ (false = true) by decide)] at H; exact H
                clear H
                have H := H1
                clear H1
                by_cases c26 : t103 = 2
                · rw [if_pos c26] at H
                  have c26b0 : (t103 == 2) = true := beq_iff_eq.mpr c26
                  have c26b1 : (t103 != 2) = false := bne_eq_false_iff_eq.mpr c26
                  clear c26
                  by_cases c27 : t106.toList = t109.toList
                  · rw [if_pos c27] at H
                    have c27b0 : (t106.toList == t109.toList) = true := beq_iff_eq.mpr c27
                    have c27b1 : (t106.toList != t109.toList) = false := bne_eq_false_iff_eq.mpr c27
                    clear c27
                    by_cases c28 : t107.toList = t110.toList
                    · rw [if_pos c28] at H
                      have c28b0 : (t107.toList == t110.toList) = true := beq_iff_eq.mpr c28
                      have c28b1 : (t107.toList != t110.toList) = false := bne_eq_false_iff_eq.mpr c28
                      clear c28
                      by_cases c29 : ((t108 == 0) != t111) = true
                      · rw [if_pos c29] at H
                        have c29b0 : ((t108 == 0) != t111) = true := c29
                        (try (have c29b1 : decide ((t108 == 0) = t111) = false := by simpa using c29))
                        (try (have c29b2 : ((t108 == 0) == t111) = false := by simpa using c29))
                        (try (have c29b3 : ¬ ((t108 == 0) = t111) := by simpa using c29))
                        clear c29
                        have H' := Aside0.mk H
                        clear H
                        go_wp2
                        go_meet
                        case rel => exact ⟨_, (true), (by first | rfl | (simp; done) | (simp [*]; done)), H', ⟨by have := HJ3.out; first | omega | exact Nat.le_refl _⟩, by repeat (first | exact Drawn0.refl _ | apply Drawn0.step)⟩
                      · rw [if_neg c29] at H
                        have c29b0 : ((t108 == 0) != t111) = false := by simpa using c29
                        (try (have c29b1 : decide ((t108 == 0) = t111) = true := by simpa using c29))
                        (try (have c29b2 : ((t108 == 0) == t111) = true := by simpa using c29))
                        clear c29
                        by_cases c30 : t111 = true
                        · subst c30
                          have H1 : ((keys_Begin.f a0).bind fun t114 => (if a0.size + 1 ≤ 9223372036854775807 then (pleachlaw31_KeysOf.j1 kj3 a0 a1 t102 false (t114.toList != (a0 ++ (⟨#[0]⟩ : ByteArray)).toList)) else (none))) = some r := by rw [if_pos rfl] at H; exact H
                          clear H
                          have H := H1
                          clear H1
                          replace H := Option.bind_eq_some_iff.mp H
                          obtain ⟨t114, A310, H⟩ := H
                          replace H : (if a0.size + 1 ≤ 9223372036854775807 then (pleachlaw31_KeysOf.j1 kj3 a0 a1 t102 false (t114.toList != (a0 ++ (⟨#[0]⟩ : ByteArray)).toList)) else (none)) = some r := H
                          have A31 := Aside0.mk A310
                          clear A310
                          by_cases c32 : a0.size + 1 ≤ 9223372036854775807
                          · rw [if_pos c32] at H
                            have c32b0 := eq_true c32
                            have c32b1 : decide (a0.size + 1 ≤ 9223372036854775807) = true := decide_eq_true c32
                            try have c32b2 : (9223372036854775807 < a0.size + 1) = False := eq_false (Nat.not_lt.2 c32)
                            have H' := Aside0.mk H
                            clear H
                            go_wp2_with (first | (go_at_call 27; (with_reducible refine (keys_Begin.calls a0 t114 _ A31.out).mono ?_); rintro e w' ⟨rfl, ⟨nd, rfl⟩⟩))
                            go_meet
                            case rel => exact ⟨_, ((t114.toList != (a0 ++ (⟨#[0]⟩ : ByteArray)).toList)), (by first | rfl | (simp; done) | (simp [*]; done)), H', ⟨by have := HJ3.out; first | omega | exact Nat.le_refl _⟩, by repeat (first | exact Drawn0.refl _ | apply Drawn0.step)⟩
                          · rw [if_neg c32] at H
                            exact absurd H (by simp)
                        · replace c30 := Bool.eq_false_iff.mpr c30
                          subst c30
                          have H1 : (if t108 = 3 then ((keys_Begin.f a0).bind fun t115 => (if a0.size + 1 ≤ 9223372036854775807 then (pleachlaw31_KeysOf.j1 kj3 a0 a1 t102 false (t115.toList != (a0 ++ (⟨#[0]⟩ : ByteArray)).toList)) else (none))) else (pleachlaw31_KeysOf.j1 kj3 a0 a1 t102 false true)) = some r := by rw [if_neg (show ¬ (false = true) by decide)] at H; exact H
                          clear H
                          have H := H1
                          clear H1
                          by_cases c33 : t108 = 3
                          · rw [if_pos c33] at H
                            have c33b0 : (t108 == 3) = true := beq_iff_eq.mpr c33
                            have c33b1 : (t108 != 3) = false := bne_eq_false_iff_eq.mpr c33
                            clear c33
                            replace H := Option.bind_eq_some_iff.mp H
                            obtain ⟨t115, A340, H⟩ := H
                            replace H : (if a0.size + 1 ≤ 9223372036854775807 then (pleachlaw31_KeysOf.j1 kj3 a0 a1 t102 false (t115.toList != (a0 ++ (⟨#[0]⟩ : ByteArray)).toList)) else (none)) = some r := H
                            have A34 := Aside0.mk A340
                            clear A340
                            by_cases c35 : a0.size + 1 ≤ 9223372036854775807
                            · rw [if_pos c35] at H
                              have c35b0 := eq_true c35
                              have c35b1 : decide (a0.size + 1 ≤ 9223372036854775807) = true := decide_eq_true c35
                              try have c35b2 : (9223372036854775807 < a0.size + 1) = False := eq_false (Nat.not_lt.2 c35)
                              have H' := Aside0.mk H
                              clear H
                              go_wp2_with (first | (go_at_call 27; (with_reducible refine (keys_Begin.calls a0 t115 _ A34.out).mono ?_); rintro e w' ⟨rfl, ⟨nd, rfl⟩⟩))
                              go_meet
                              case rel => exact ⟨_, ((t115.toList != (a0 ++ (⟨#[0]⟩ : ByteArray)).toList)), (by first | rfl | (simp; done) | (simp [*]; done)), H', ⟨by have := HJ3.out; first | omega | exact Nat.le_refl _⟩, by repeat (first | exact Drawn0.refl _ | apply Drawn0.step)⟩
                            · rw [if_neg c35] at H
                              exact absurd H (by simp)
                          · rw [if_neg c33] at H
                            have c33b0 : (t108 == 3) = false := beq_eq_false_iff_ne.mpr c33
                            have c33b1 : (t108 != 3) = true := bne_iff_ne.mpr c33
                            have H' := Aside0.mk H
                            clear H
                            go_wp2
                            go_meet
                            case rel => exact ⟨_, (true), (by first | rfl | (simp; done) | (simp [*]; done)), H', ⟨by have := HJ3.out; first | omega | exact Nat.le_refl _⟩, by repeat (first | exact Drawn0.refl _ | apply Drawn0.step)⟩
                    · rw [if_neg c28] at H
                      have c28b0 : (t107.toList == t110.toList) = false := beq_eq_false_iff_ne.mpr c28
                      have c28b1 : (t107.toList != t110.toList) = true := bne_iff_ne.mpr c28
                      have H' := Aside0.mk H
                      clear H
                      go_wp2
                      go_meet
                      case rel => exact ⟨_, (true), (by first | rfl | (simp; done) | (simp [*]; done)), H', ⟨by have := HJ3.out; first | omega | exact Nat.le_refl _⟩, by repeat (first | exact Drawn0.refl _ | apply Drawn0.step)⟩
                  · rw [if_neg c27] at H
                    have c27b0 : (t106.toList == t109.toList) = false := beq_eq_false_iff_ne.mpr c27
                    have c27b1 : (t106.toList != t109.toList) = true := bne_iff_ne.mpr c27
                    have H' := Aside0.mk H
                    clear H
                    go_wp2
                    go_meet
                    case rel => exact ⟨_, (true), (by first | rfl | (simp; done) | (simp [*]; done)), H', ⟨by have := HJ3.out; first | omega | exact Nat.le_refl _⟩, by repeat (first | exact Drawn0.refl _ | apply Drawn0.step)⟩
                · rw [if_neg c26] at H
                  have c26b0 : (t103 == 2) = false := beq_eq_false_iff_ne.mpr c26
                  have c26b1 : (t103 != 2) = true := bne_iff_ne.mpr c26
                  have H' := Aside0.mk H
                  clear H
                  go_wp2
                  go_meet
                  case rel => exact ⟨_, (true), (by first | rfl | (simp; done) | (simp [*]; done)), H', ⟨by have := HJ3.out; first | omega | exact Nat.le_refl _⟩, by repeat (first | exact Drawn0.refl _ | apply Drawn0.step)⟩
          · rw [if_neg c14] at H
            have c14b0 : (t102.toList == t104.toList) = false := beq_eq_false_iff_ne.mpr c14
            have c14b1 : (t102.toList != t104.toList) = true := bne_iff_ne.mpr c14
            (first | rw [c14b0] | (simp only [i64_w, i32_w]; rw [c14b0]) | skip)
            have H' := Aside0.mk H
            clear H
            go_wp2
            go_meet
            case rel => exact ⟨_, (true), (by first | rfl | (simp; done) | (simp [*]; done)), H', ⟨by have := HJ3.out; first | omega | exact Nat.le_refl _⟩, by repeat (first | exact Drawn0.refl _ | apply Drawn0.step)⟩
        case rest =>
          clear HC13
          try clear c1
          try clear c2
          try clear p2
          try clear c3
          try clear c5
          try clear c5b0
          try clear c5b1
          try clear c6
          try clear c6b0
          try clear c6b1
          try clear c7
          try clear c14
          try clear c14b0
          try clear c14b1
          try clear c15
          try clear c15b0
          try clear c15b1
          try clear c15b2
          try clear c16
          try clear c17
          try clear c17b0
          try clear c17b1
          try clear c18
          try clear c18b0
          try clear c18b1
          try clear c19
          try clear c19b0
          try clear c19b1
          try clear c19b2
          try clear c20
          try clear c22
          try clear c22b0
          try clear c22b1
          try clear c22b2
          try clear c23
          try clear c23b0
          try clear c23b1
          try clear c24
          try clear c25
          try clear c25b0
          try clear c25b1
          try clear c25b2
          try clear c26
          try clear c26b0
          try clear c26b1
          try clear c27
          try clear c27b0
          try clear c27b1
          try clear c28
          try clear c28b0
          try clear c28b1
          try clear c29
          try clear c29b0
          try clear c29b1
          try clear c29b2
          try clear c30
          try clear c32
          try clear c32b0
          try clear c32b1
          try clear c32b2
          try clear c33
          try clear c33b0
          try clear c33b1
          try clear c35
          try clear c35b0
          try clear c35b1
          try clear c35b2
          try clear p2
          obtain ⟨kq, x102_12, rfl, HA, HJ12, ⟨mc12, rfl⟩⟩ := hcut
          cases kq with
          | zero => exact absurd HA.out (by simp [pleachlaw31_KeysOf.j1])
          | succ kj12 =>
            have H := HA.out
            clear HA
            simp only [pleachlaw31_KeysOf.j1] at H
            by_cases c36 : x102_12 = true
            · subst c36
              have H1 : (some false) = some r := by rw [if_pos rfl] at H; exact H
              clear H
              have H := H1
              clear H1
              obtain rfl := Option.some.inj H
              go_wp2
              go_ret
              exact ⟨by first | rfl | (simp; done) | (simp [*]; done), by repeat (first | exact Drawn0.refl _ | apply Drawn0.step)⟩
            · replace c36 := Bool.eq_false_iff.mpr c36
              subst c36
              have H1 : (if t105 = true then ((keys_Parted.f kj12 t102).bind fun bt116 => (if bt116.1.toList = a0.toList then (if bt116.2.1.toList = a1.toList then (if bt116.2.2 = 0 then ((pleachlaw31_awake.f kj12).bind fun t119 => (some t119)) else (some false)) else (some false)) else (some false))) else ((pleachlaw31_awake.f kj12).bind fun t120 => (some t120))) = some r := by rw [if_neg (show ¬ (false = true) by decide)] at H; exact H
              clear H
              have H := H1
              clear H1
              by_cases c37 : t105 = true
              · subst c37
                have H1 : ((keys_Parted.f kj12 t102).bind fun bt116 => (if bt116.1.toList = a0.toList then (if bt116.2.1.toList = a1.toList then (if bt116.2.2 = 0 then ((pleachlaw31_awake.f kj12).bind fun t119 => (some t119)) else (some false)) else (some false)) else (some false))) = some r := by rw [if_pos rfl] at H; exact H
                clear H
                have H := H1
                clear H1
                replace H := Option.bind_eq_some_iff.mp H
                obtain ⟨⟨t116, t117, t118⟩, A380, H⟩ := H
                replace H : (if t116.toList = a0.toList then (if t117.toList = a1.toList then (if t118 = 0 then ((pleachlaw31_awake.f kj12).bind fun t119 => (some t119)) else (some false)) else (some false)) else (some false)) = some r := H
                have A38 := Aside0.mk A380
                clear A380
                by_cases c39 : t116.toList = a0.toList
                · rw [if_pos c39] at H
                  have c39b0 : (t116.toList == a0.toList) = true := beq_iff_eq.mpr c39
                  have c39b1 : (t116.toList != a0.toList) = false := bne_eq_false_iff_eq.mpr c39
                  clear c39
                  by_cases c40 : t117.toList = a1.toList
                  · rw [if_pos c40] at H
                    have c40b0 : (t117.toList == a1.toList) = true := beq_iff_eq.mpr c40
                    have c40b1 : (t117.toList != a1.toList) = false := bne_eq_false_iff_eq.mpr c40
                    clear c40
                    by_cases c41 : t118 = 0
                    · rw [if_pos c41] at H
                      have c41b0 : (t118 == 0) = true := beq_iff_eq.mpr c41
                      have c41b1 : (t118 != 0) = false := bne_eq_false_iff_eq.mpr c41
                      clear c41
                      replace H := Option.bind_eq_some_iff.mp H
                      obtain ⟨t119, A420, H⟩ := H
                      replace H : (some t119) = some r := H
                      have A42 := Aside0.mk A420
                      clear A420
                      obtain rfl := Option.some.inj H
                      go_wp2_with (first | ((with_reducible refine gate_callee (f := 25) rfl ?_); refine goesL_ (some 108) rfl rfl Try.func25 (by kernel_rfl) rfl #[.string t102] rfl (by (try simp only [List.map_toArray, List.map_cons, List.map_nil]); first | done | rfl | (simp only [List.length_drop, List.length_take]; rfl)) ?_; (with_reducible refine (keys_Parted.calls kj12 t102 t116 t117 t118 _ A38.out).mono ?_); rintro e w' ⟨rfl, ⟨nd, rfl⟩⟩; refine ⟨_, rfl, ?_⟩) | (go_at_call 22; (with_reducible refine (pleachlaw31_awake.calls kj12  t119 _ A42.out).mono ?_); rintro e w' ⟨rfl, ⟨nd, rfl⟩⟩))
                      go_ret
                      exact ⟨by first | rfl | (simp; done) | (simp [*]; done), by repeat (first | exact Drawn0.refl _ | apply Drawn0.step)⟩
                    · rw [if_neg c41] at H
                      have c41b0 : (t118 == 0) = false := beq_eq_false_iff_ne.mpr c41
                      have c41b1 : (t118 != 0) = true := bne_iff_ne.mpr c41
                      obtain rfl := Option.some.inj H
                      go_wp2_with (first | ((with_reducible refine gate_callee (f := 25) rfl ?_); refine goesL_ (some 108) rfl rfl Try.func25 (by kernel_rfl) rfl #[.string t102] rfl (by (try simp only [List.map_toArray, List.map_cons, List.map_nil]); first | done | rfl | (simp only [List.length_drop, List.length_take]; rfl)) ?_; (with_reducible refine (keys_Parted.calls kj12 t102 t116 t117 t118 _ A38.out).mono ?_); rintro e w' ⟨rfl, ⟨nd, rfl⟩⟩; refine ⟨_, rfl, ?_⟩))
                      go_ret
                      exact ⟨by first | rfl | (simp; done) | (simp [*]; done), by repeat (first | exact Drawn0.refl _ | apply Drawn0.step)⟩
                  · rw [if_neg c40] at H
                    have c40b0 : (t117.toList == a1.toList) = false := beq_eq_false_iff_ne.mpr c40
                    have c40b1 : (t117.toList != a1.toList) = true := bne_iff_ne.mpr c40
                    obtain rfl := Option.some.inj H
                    go_wp2_with (first | ((with_reducible refine gate_callee (f := 25) rfl ?_); refine goesL_ (some 108) rfl rfl Try.func25 (by kernel_rfl) rfl #[.string t102] rfl (by (try simp only [List.map_toArray, List.map_cons, List.map_nil]); first | done | rfl | (simp only [List.length_drop, List.length_take]; rfl)) ?_; (with_reducible refine (keys_Parted.calls kj12 t102 t116 t117 t118 _ A38.out).mono ?_); rintro e w' ⟨rfl, ⟨nd, rfl⟩⟩; refine ⟨_, rfl, ?_⟩))
                    go_ret
                    exact ⟨by first | rfl | (simp; done) | (simp [*]; done), by repeat (first | exact Drawn0.refl _ | apply Drawn0.step)⟩
                · rw [if_neg c39] at H
                  have c39b0 : (t116.toList == a0.toList) = false := beq_eq_false_iff_ne.mpr c39
                  have c39b1 : (t116.toList != a0.toList) = true := bne_iff_ne.mpr c39
                  obtain rfl := Option.some.inj H
                  go_wp2_with (first | ((with_reducible refine gate_callee (f := 25) rfl ?_); refine goesL_ (some 108) rfl rfl Try.func25 (by kernel_rfl) rfl #[.string t102] rfl (by (try simp only [List.map_toArray, List.map_cons, List.map_nil]); first | done | rfl | (simp only [List.length_drop, List.length_take]; rfl)) ?_; (with_reducible refine (keys_Parted.calls kj12 t102 t116 t117 t118 _ A38.out).mono ?_); rintro e w' ⟨rfl, ⟨nd, rfl⟩⟩; refine ⟨_, rfl, ?_⟩))
                  go_ret
                  exact ⟨by first | rfl | (simp; done) | (simp [*]; done), by repeat (first | exact Drawn0.refl _ | apply Drawn0.step)⟩
              · replace c37 := Bool.eq_false_iff.mpr c37
                subst c37
                have H1 : ((pleachlaw31_awake.f kj12).bind fun t120 => (some t120)) = some r := by rw [if_neg (show ¬ (false = true) by decide)] at H; exact H
                clear H
                have H := H1
                clear H1
                replace H := Option.bind_eq_some_iff.mp H
                obtain ⟨t120, A430, H⟩ := H
                replace H : (some t120) = some r := H
                have A43 := Aside0.mk A430
                clear A430
                obtain rfl := Option.some.inj H
                go_wp2_with (first | ((with_reducible refine gate_callee (f := 22) rfl ?_); refine goesL_ (some 105) rfl rfl Try.func22 (by kernel_rfl) rfl #[] rfl (by (try simp only [List.map_toArray, List.map_cons, List.map_nil]); first | done | rfl | (simp only [List.length_drop, List.length_take]; rfl)) ?_; (with_reducible refine (pleachlaw31_awake.calls kj12  t120 _ A43.out).mono ?_); rintro e w' ⟨rfl, ⟨nd, rfl⟩⟩; refine ⟨_, rfl, ?_⟩))
                go_ret
                exact ⟨by first | rfl | (simp; done) | (simp [*]; done), by repeat (first | exact Drawn0.refl _ | apply Drawn0.step)⟩

end Go.Proofs.Ytmnadajjgnniaaa.MA
end
section
namespace Go.Proofs.Ytmnadajjgnniaaa.MA
open Go.RowKit Go.Proofs.YtmnadajjgnniaaaW.PrintWords Go.Proofs.Ytmnadajjgnniaaa.HOpen
def pleachlaw31_KeysOf.Pure : Prop := ∀ (x0 : ByteArray) (x1 : ByteArray) (x2 : ByteArray), x0.size ≤ 140737488351232 → x1.size ≤ 140737488351232 → x2.size ≤ 140737488351232 → ∃ k, pleachlaw31_KeysOf.f k x0 x1 x2 = some true
end Go.Proofs.Ytmnadajjgnniaaa.MA
end
section
set_option linter.unusedVariables false
set_option linter.unusedSimpArgs false
namespace Go.Proofs.Ytmnadajjgnniaaa.Q
open Go.RowKit Go.Proofs.YtmnadajjgnniaaaW.PrintWords

theorem w64 {x : Int} (h0 : -9223372036854775808 ≤ x) (h1 : x ≤ 9223372036854775807) : wrap64 x = x := by unfold wrap64; omega
theorem wu64 {x : Int} (h0 : 0 ≤ x) (h1 : x ≤ 18446744073709551615) : IntKind.u64.wrap x = x := by
  have : IntKind.u64.wrap x = x % 18446744073709551616 := by simp [IntKind.wrap, IntKind.bits, IntKind.signed]
  rw [this]; omega
theorem wu64_mod (x : Int) : IntKind.u64.wrap x = x % 18446744073709551616 := by simp [IntKind.wrap, IntKind.bits, IntKind.signed]
theorem wf_i64 {x : Int} (h : (Lit.int .i64 x).wf = true) : -9223372036854775808 ≤ x ∧ x ≤ 9223372036854775807 := by
  simp [Lit.wf, IntKind.min, IntKind.max, IntKind.bits, IntKind.signed] at h
  omega
theorem toList_size (s : ByteArray) : s.toList.length = s.size := by rw [ByteArray.toList_eq]; exact data_length s
theorem toList_nil {s : ByteArray} : s.toList = [] ↔ s.size = 0 := by
  rw [← toList_size, List.length_eq_zero_iff]
theorem bytes_ext {s t : ByteArray} (h : s.toList = t.toList) : s = t := by
  rw [ByteArray.toList_eq, ByteArray.toList_eq] at h
  have : s.data = t.data := by rwa [← Array.toList_inj]
  cases s; cases t; simp_all
theorem strOfNums_size (xs : List Int) : (strOfNums xs).size = xs.length := by unfold strOfNums; simp [ByteArray.size]
theorem strOfNums_append (xs ys : List Int) : strOfNums (xs ++ ys) = strOfNums xs ++ strOfNums ys := by
  apply ByteArray.ext
  simp [strOfNums]
def LIM : Nat := 140737488351232
end Go.Proofs.Ytmnadajjgnniaaa.Q
end
section
set_option linter.unusedVariables false
set_option linter.unusedSimpArgs false
namespace Go.Proofs.Ytmnadajjgnniaaa.Q
open Go.RowKit Go.Proofs.YtmnadajjgnniaaaW.PrintWords Go.Proofs.Ytmnadajjgnniaaa.MA

def okc (c : Int) : Bool := (decide (97 ≤ c) && decide (c ≤ 122)) || (decide (48 ≤ c) && decide (c ≤ 57)) || c == 45
theorem name_fits_eq (c : Int) : name_fits.f c = some (okc c) := by
  unfold name_fits.f okc
  repeat' split
  all_goals simp only [Option.some.injEq]
  all_goals first | (rw [eq_comm]; simp; omega) | (simp; omega) | (rw [Bool.eq_iff_iff]; simp; omega)
def okFrom (s : ByteArray) : Nat → Nat → Bool
  | 0, _ => true
  | d + 1, i => okc (bt s i) && okFrom s d (i + 1)
def nameB (s : ByteArray) : Bool := decide (1 ≤ s.size) && decide (s.size ≤ 12) && okFrom s s.size 0

theorem name_Check_l0 (s : ByteArray) (hs : s.size ≤ 140737488351232) : ∀ d i : Nat, i + d = s.size → ∀ k, d + 1 ≤ k → name_Check.l0 k s (s.size : Int) (i : Int) = some (if okFrom s d i then 0 else 2)
  | 0, i, h, k, hk => by
    obtain ⟨k, rfl⟩ : ∃ m, k = m + 1 := ⟨k - 1, by omega⟩
    rw [name_Check.l0, if_neg (by omega)]
    simp [okFrom]
  | d + 1, i, h, k, hk => by
    obtain ⟨k, rfl⟩ : ∃ m, k = m + 1 := ⟨k - 1, by omega⟩
    rw [name_Check.l0, if_pos (by omega), if_pos (by omega), if_pos (by omega), name_fits_eq]
    simp only [Option.bind_some]
    rw [w64 (by omega) (by omega)]
    have ih := name_Check_l0 s hs d (i + 1) (by omega) k (by omega)
    rw [show ((i : Int) + 1) = ((i + 1 : Nat) : Int) by omega, ih]
    cases hc : okc (bt s (i : Int)) <;> simp [okFrom, hc]
theorem name_Check_ev (s : ByteArray) (hs : s.size ≤ 140737488351232) (k : Nat) (hk : s.size + 2 ≤ k) : name_Check.f k s = some (if nameB s then 0 else 2) := by
  obtain ⟨k, rfl⟩ : ∃ m, k = m + 1 := ⟨k - 1, by omega⟩
  unfold name_Check.f
  by_cases h0 : s.toList = []
  · rw [if_pos h0, name_Check.j0, if_pos rfl]
    have := toList_nil.1 h0
    simp [nameB, this]
  · rw [if_neg h0, name_Check.j0]
    have h1 : s.size ≠ 0 := fun h => h0 (toList_nil.2 h)
    by_cases h2 : (s.size : Int) > 12
    · rw [if_pos (by simpa using h2)]
      have : ¬ s.size ≤ 12 := by omega
      simp [nameB, this]
    · rw [if_neg (by simpa using h2), show (0 : Int) = ((0 : Nat) : Int) from rfl, name_Check_l0 s hs s.size 0 (by omega) k (by omega)]
      have h3 : s.size ≤ 12 := by omega
      have h4 : 1 ≤ s.size := by omega
      simp [nameB, h3, h4]

theorem refIs_l0 (s : ByteArray) (hs : s.size ≤ 140737488351232) : ∀ d i : Nat, i + d = s.size → ∀ k, d + 1 ≤ k → pleachref05_Is.l0 k s (i : Int) = some (okFrom s d i && (decide (1 ≤ s.size) && decide (s.size ≤ 12)))
  | 0, i, h, k, hk => by
    obtain ⟨k, rfl⟩ : ∃ m, k = m + 1 := ⟨k - 1, by omega⟩
    rw [pleachref05_Is.l0, if_neg (by omega)]
    split
    · rename_i h1
      have : 1 ≤ s.size := by omega
      simp [okFrom, this]
      constructor <;> intro h <;> omega
    · rename_i h1
      have : ¬ 1 ≤ s.size := by omega
      simp [okFrom]
      omega
  | d + 1, i, h, k, hk => by
    obtain ⟨k, rfl⟩ : ∃ m, k = m + 1 := ⟨k - 1, by omega⟩
    rw [pleachref05_Is.l0, if_pos (by omega), if_pos (by omega)]
    rw [w64 (by omega) (by omega)]
    have ih := refIs_l0 s hs d (i + 1) (by omega) k (by omega)
    rw [show ((i : Int) + 1) = ((i + 1 : Nat) : Int) by omega, ih]
    simp only [okFrom, okc]
    generalize bt s (i : Int) = c
    generalize okFrom s d (i + 1) = b
    by_cases a1 : c ≥ 97 <;> by_cases a2 : c ≤ 122 <;> by_cases a3 : c ≥ 48 <;> by_cases a4 : c ≤ 57 <;> by_cases a5 : c = 45 <;> simp [a1, a2, a3, a4, a5] <;> omega
theorem refIs_ev (s : ByteArray) (hs : s.size ≤ 140737488351232) (k : Nat) (hk : s.size + 1 ≤ k) : pleachref05_Is.f k s = some (nameB s) := by
  unfold pleachref05_Is.f
  rw [show (0 : Int) = ((0 : Nat) : Int) from rfl, refIs_l0 s hs s.size 0 (by omega) k (by omega), nameB, Bool.and_comm]
end Go.Proofs.Ytmnadajjgnniaaa.Q
end
section
set_option linter.unusedVariables false
set_option linter.unusedSimpArgs false
namespace Go.Proofs.Ytmnadajjgnniaaa.Q
open Go.RowKit Go.Proofs.YtmnadajjgnniaaaW.PrintWords Go.Proofs.Ytmnadajjgnniaaa.MA

theorem bt_data (s : ByteArray) (i : Nat) (h : i < s.size) : bt s (i : Int) = ((s.data.toList[i]'(by rw [Array.length_toList]; exact h)).toNat : Int) := by
  unfold bt
  simp [h]
  rfl
theorem indexByte_spec (c : UInt8) : ∀ l : List UInt8, (Lib.indexByte l c = -1 ∧ ∀ j (h : j < l.length), l[j] ≠ c) ∨ (∃ j, ∃ h : j < l.length, Lib.indexByte l c = (j : Int) ∧ l[j] = c ∧ ∀ i (hi : i < j), l[i]'(by omega) ≠ c)
  | [] => .inl ⟨rfl, fun j h => by simp at h⟩
  | b :: l => by
    unfold Lib.indexByte
    by_cases hb : b = c
    · refine .inr ⟨0, by simp, by simp [hb], by simp [hb], fun i hi => by omega⟩
    · have hb' : (b == c) = false := by simpa using hb
      rw [hb']
      simp only [Bool.false_eq_true, if_false]
      rcases indexByte_spec c l with ⟨h1, h2⟩ | ⟨j, hj, h1, h2, h3⟩
      · refine .inl ⟨by rw [h1]; rfl, fun j h => ?_⟩
        cases j with
        | zero => exact hb
        | succ j => exact h2 j (by simpa using h)
      · refine .inr ⟨j + 1, by simp; omega, ?_, by simpa using h2, fun i hi => ?_⟩
        · rw [h1]
          have : ((j : Int) == -1) = false := by rw [beq_eq_false_iff_ne]; omega
          rw [this]
          simp
        · cases i with
          | zero => exact hb
          | succ i => exact h3 i (by omega)
def zeroAt (s : ByteArray) : Int := Lib.indexByte s.data.toList 0
theorem zeroAt_spec (s : ByteArray) : (zeroAt s = -1 ∧ ∀ j, j < s.size → bt s (j : Int) ≠ 0) ∨ (∃ j, j < s.size ∧ zeroAt s = (j : Int) ∧ bt s (j : Int) = 0 ∧ ∀ i, i < j → bt s (i : Int) ≠ 0) := by
  have hl : s.data.toList.length = s.size := by rw [Array.length_toList]; rfl
  have nz : ∀ j (h : j < s.size), bt s (j : Int) = 0 ↔ s.data.toList[j]'(by omega) = 0 := by
    intro j h
    rw [bt_data s j h]
    constructor
    · intro h; apply UInt8.toNat_inj.1; simpa using h
    · intro h; rw [h]; rfl
  rcases indexByte_spec 0 s.data.toList with ⟨h1, h2⟩ | ⟨j, hj, h1, h2, h3⟩
  · exact .inl ⟨h1, fun j h he => h2 j (by omega) ((nz j h).1 he)⟩
  · exact .inr ⟨j, by omega, h1, (nz j (by omega)).2 h2, fun i hi he => h3 i hi ((nz i (by omega)).1 he)⟩
def e0 : ByteArray := ⟨#[]⟩
theorem Index_zero (s : ByteArray) : stringslite_Index.f s ⟨#[0]⟩ = some (zeroAt s) := by
  unfold stringslite_Index.f
  rw [if_pos (by decide)]
  rfl
theorem Cut_eq (s : ByteArray) (hs : s.size ≤ 140737488351232) : strings_Cut.f s ⟨#[0]⟩ = some (if 0 ≤ zeroAt s then (s.extract 0 (zeroAt s).toNat, s.extract ((zeroAt s).toNat + 1) s.size, true) else (s, ⟨#[]⟩, false)) := by
  unfold strings_Cut.f stringslite_Cut.f
  rw [Index_zero]
  simp only [Option.bind_some]
  rcases zeroAt_spec s with ⟨h1, _⟩ | ⟨j, hj, h1, _⟩
  · rw [h1, if_neg (by omega), if_neg (by omega)]
    rfl
  · rw [h1]
    have e1 : (((⟨#[0]⟩ : ByteArray).size : Nat) : Int) = 1 := rfl
    rw [e1, w64 (by omega) (by omega), if_pos (by omega), if_pos (by omega), if_pos (by omega), if_pos (by omega), if_pos (by omega), if_pos (by omega)]
    simp only [Option.bind_some]
    have : ((j : Int) + 1).toNat = j + 1 := by omega
    simp [this]
def partedB (s : ByteArray) : ByteArray × ByteArray × Bool :=
  if 0 ≤ zeroAt s ∧ (nameB (s.extract 0 (zeroAt s).toNat) && nameB (s.extract ((zeroAt s).toNat + 1) s.size)) = true then (s.extract 0 (zeroAt s).toNat, s.extract ((zeroAt s).toNat + 1) s.size, true) else (⟨#[]⟩, ⟨#[]⟩, false)
theorem extract_size (s : ByteArray) (a b : Nat) : (s.extract a b).size ≤ s.size := by
  rw [ByteArray.size_extract]; omega
theorem Parted_ev (s : ByteArray) (hs : s.size ≤ 140737488351232) (k : Nat) (hk : 1000000000000000 ≤ k) : keys_Parted.f k s = some ((partedB s).1, (partedB s).2.1, if (partedB s).2.2 then 0 else 3) := by
  unfold keys_Parted.f partedB
  rw [Cut_eq s hs]
  simp only [Option.bind_some]
  have h1 := extract_size s 0 (zeroAt s).toNat
  have h2 := extract_size s ((zeroAt s).toNat + 1) s.size
  by_cases hz : 0 ≤ zeroAt s
  · simp only [hz, if_true, true_and]
    rw [name_Check_ev _ (by omega) k (by omega)]
    simp only [Option.bind_some]
    rw [name_Check_ev _ (by omega) k (by omega)]
    simp only [Option.bind_some]
    cases nameB (s.extract 0 (zeroAt s).toNat) <;> cases nameB (s.extract ((zeroAt s).toNat + 1) s.size) <;> simp
  · simp [hz]
theorem cut_back (s : ByteArray) (j : Nat) (hj : j < s.size) (h0 : bt s (j : Int) = 0) : (s.extract 0 j ++ (⟨#[0]⟩ : ByteArray)) ++ s.extract (j + 1) s.size = s := by
  obtain ⟨⟨l⟩⟩ := s
  have hj' : j < l.length := hj
  have h1 : l[j] = 0 := by
    have := bt_data ⟨⟨l⟩⟩ j hj
    rw [h0] at this
    apply UInt8.toNat_inj.1
    simp at this
    simp
    omega
  apply ByteArray.ext
  apply Array.ext'
  have hsz : (⟨⟨l⟩⟩ : ByteArray).size = l.length := rfl
  simp only [ByteArray.data_append, ByteArray.data_extract, Array.toList_append, Array.toList_extract, hsz]
  simp only [List.extract_eq_take_drop, List.drop_zero, Nat.sub_zero]
  rw [List.take_of_length_le (l := l.drop (j + 1)) (by rw [List.length_drop]; omega)]
  have : ([0] : List UInt8) = [l[j]] := by rw [h1]
  rw [this, List.append_assoc, List.singleton_append, List.getElem_cons_drop, List.take_append_drop]
theorem refParted_none (s : ByteArray) (hs : s.size ≤ 140737488351232) (hz : ∀ j, j < s.size → bt s (j : Int) ≠ 0) : ∀ (d i : Nat), i + d = s.size → ∀ k, d + 1 ≤ k → pleachref31_Parted.l0 k s (i : Int) = some (⟨#[]⟩, ⟨#[]⟩, false)
  | 0, i, h, k, hk => by
    obtain ⟨k, rfl⟩ : ∃ m, k = m + 1 := ⟨k - 1, by omega⟩
    rw [pleachref31_Parted.l0, if_neg (by omega)]
  | d + 1, i, h, k, hk => by
    obtain ⟨k, rfl⟩ : ∃ m, k = m + 1 := ⟨k - 1, by omega⟩
    rw [pleachref31_Parted.l0, if_pos (by omega), if_pos (by omega), if_neg (hz i (by omega)), w64 (by omega) (by omega), show ((i : Int) + 1) = ((i + 1 : Nat) : Int) by omega]
    exact refParted_none s hs hz d (i + 1) (by omega) k (by omega)
theorem nameB_size' {s : ByteArray} (h : nameB s = true) : s.size ≤ 12 := by
  unfold nameB at h
  simp at h
  exact h.1.2
theorem refOf_ev (a b : ByteArray) (ha : a.size ≤ 140737488351232) (hb : b.size ≤ 140737488351232) (k : Nat) (hk : 1000000000000000 ≤ k) : pleachref31_Of.f k a b = some (if (nameB a && nameB b) = true then ((a ++ (⟨#[0]⟩ : ByteArray)) ++ b, true) else (⟨#[]⟩, false)) := by
  unfold pleachref31_Of.f
  rw [refIs_ev a ha k (by omega), refIs_ev b hb k (by omega)]
  have h1 : a.size ≤ 9223372036854775806 := by omega
  have h2 : a.size + 1 + b.size ≤ 9223372036854775807 := by omega
  cases nameB a <;> cases nameB b <;> simp [h1, h2]
theorem refParted_some (s : ByteArray) (hs : s.size ≤ 140737488351232) (j : Nat) (hj : j < s.size) (h0 : bt s (j : Int) = 0) (hz : ∀ i, i < j → bt s (i : Int) ≠ 0) : ∀ (d i : Nat), i + d = j → ∀ k, d + 1000000000000001 ≤ k →
    pleachref31_Parted.l0 k s (i : Int) = some (if (nameB (s.extract 0 j) && nameB (s.extract (j + 1) s.size)) = true then (s.extract 0 j, s.extract (j + 1) s.size, true) else (⟨#[]⟩, ⟨#[]⟩, false))
  | 0, i, h, k, hk => by
    obtain ⟨k, rfl⟩ : ∃ m, k = m + 1 := ⟨k - 1, by omega⟩
    obtain rfl : i = j := by omega
    have h1 := extract_size s 0 i
    have h2 := extract_size s (i + 1) s.size
    rw [pleachref31_Parted.l0, if_pos (by omega), if_pos (by omega), if_pos h0, w64 (by omega) (by omega), if_pos (by omega), if_pos (by omega), if_pos (by omega)]
    have e1 : ((i : Int) + 1).toNat = i + 1 := by omega
    rw [e1, Int.toNat_natCast, refOf_ev _ _ (by omega) (by omega) k (by omega)]
    simp only [Option.bind_some]
    cases hb : (nameB (s.extract 0 i) && nameB (s.extract (i + 1) s.size)) with
    | false => simp
    | true =>
      simp only [if_true]
      rw [cut_back s i hj h0, if_pos rfl]
  | d + 1, i, h, k, hk => by
    obtain ⟨k, rfl⟩ : ∃ m, k = m + 1 := ⟨k - 1, by omega⟩
    rw [pleachref31_Parted.l0, if_pos (by omega), if_pos (by omega), if_neg (hz i (by omega)), w64 (by omega) (by omega), show ((i : Int) + 1) = ((i + 1 : Nat) : Int) by omega]
    exact refParted_some s hs j hj h0 hz d (i + 1) (by omega) k (by omega)
theorem refParted_ev (s : ByteArray) (hs : s.size ≤ 140737488351232) (k : Nat) (hk : 2000000000000000 ≤ k) : pleachref31_Parted.f k s = some (partedB s) := by
  unfold pleachref31_Parted.f partedB
  rcases zeroAt_spec s with ⟨h1, h2⟩ | ⟨j, hj, h1, h0, hz⟩
  · rw [show (0 : Int) = ((0 : Nat) : Int) from rfl, refParted_none s hs h2 s.size 0 (by omega) k (by omega), h1]
    simp
  · have := refParted_some s hs j hj h0 hz j 0 (by omega) k (by omega)
    rw [show (0 : Int) = ((0 : Nat) : Int) from rfl, this, h1]
    simp
theorem Of_ev (a b : ByteArray) (ha : a.size ≤ 140737488351232) (hb : b.size ≤ 140737488351232) (k : Nat) (hk : 1000000000000000 ≤ k) : keys_Of.f k a b = some (if (nameB a && nameB b) = true then ((a ++ (⟨#[0]⟩ : ByteArray)) ++ b, 0) else (⟨#[]⟩, 2)) := by
  unfold keys_Of.f
  rw [name_Check_ev a ha k (by omega), name_Check_ev b hb k (by omega)]
  have h1 : a.size ≤ 9223372036854775806 := by omega
  have h2 : a.size + 1 + b.size ≤ 9223372036854775807 := by omega
  cases nameB a <;> cases nameB b <;> simp [h1, h2]
theorem okFrom_at {s : ByteArray} : ∀ d i, okFrom s d i = true → ∀ j, i ≤ j → j < i + d → okc (bt s (j : Int)) = true
  | 0, i, _, j, h1, h2 => by omega
  | d + 1, i, h, j, h1, h2 => by
    simp [okFrom] at h
    by_cases hij : j = i
    · rw [hij]; exact h.1
    · exact okFrom_at d (i + 1) h.2 j (by omega) (by omega)
theorem name_nz {s : ByteArray} (h : nameB s = true) (j : Nat) (hj : j < s.size) : bt s (j : Int) ≠ 0 := by
  unfold nameB at h
  simp at h
  have := okFrom_at s.size 0 h.2 j (by omega) (by omega)
  intro he
  rw [he] at this
  simp [okc] at this
theorem parted_of (a b : ByteArray) (ha : nameB a = true) (hb : nameB b = true) : partedB ((a ++ (⟨#[0]⟩ : ByteArray)) ++ b) = (a, b, true) := by
  obtain ⟨s, hs⟩ : ∃ s, s = (a ++ (⟨#[0]⟩ : ByteArray)) ++ b := ⟨_, rfl⟩
  rw [← hs]
  have hsz : s.size = a.size + 1 + b.size := by rw [hs, ByteArray.size_append, ByteArray.size_append]; rfl
  have hd : s.data.toList = a.data.toList ++ (0 :: b.data.toList) := by
    rw [hs]
    simp [ByteArray.data_append]
  have la : a.data.toList.length = a.size := by rw [Array.length_toList]; rfl
  have hz : zeroAt s = (a.size : Int) := by
    have at0 : bt s (a.size : Int) = 0 := by
      rw [bt_data s a.size (by omega)]
      simp only [hd]
      rw [List.getElem_append_right (by omega)]
      simp [la]
    rcases zeroAt_spec s with ⟨_, h2⟩ | ⟨j, hj, h1, h0, hlt⟩
    · exact absurd at0 (h2 a.size (by omega))
    · rw [h1]
      rcases Nat.lt_trichotomy j a.size with h | h | h
      · exfalso
        rw [bt_data s j hj] at h0
        simp only [hd] at h0
        rw [List.getElem_append_left (by omega), ← bt_data a j h] at h0
        exact name_nz ha j h h0
      · rw [h]
      · exact absurd at0 (hlt a.size h)
  have e1 : s.extract 0 a.size = a := by
    apply ByteArray.ext
    apply Array.ext'
    rw [ByteArray.data_extract, Array.toList_extract, hd]
    simp only [List.extract_eq_take_drop, List.drop_zero, Nat.sub_zero]
    rw [List.take_left' la]
  have e2 : s.extract (a.size + 1) s.size = b := by
    apply ByteArray.ext
    apply Array.ext'
    rw [ByteArray.data_extract, Array.toList_extract, hd]
    simp only [List.extract_eq_take_drop]
    have : (a.data.toList ++ 0 :: b.data.toList).drop (a.size + 1) = b.data.toList := by
      rw [← la, List.drop_append]
      simp
    rw [this, List.take_of_length_le (by rw [Array.length_toList, hsz]; show b.size ≤ _; omega)]
  unfold partedB
  rw [hz, Int.toNat_natCast, e1, e2, ha, hb]
  simp
theorem keys_awake_ev (k : Nat) (hk : 1000000000000000 ≤ k) : pleachlaw31_awake.f k = some true := by
  unfold pleachlaw31_awake.f
  rw [Of_ev _ _ (by decide) (by decide) k hk]
  have e1 : (nameB ⟨#[97]⟩ && nameB ⟨#[120]⟩) = true := by decide +kernel
  rw [if_pos e1]
  simp only [Option.bind_some]
  have e3 : ((⟨#[97]⟩ : ByteArray) ++ (⟨#[0]⟩ : ByteArray) ++ (⟨#[120]⟩ : ByteArray)).toList = [97, 0, 120] := by decide +kernel
  rw [if_pos e3]
  rfl
end Go.Proofs.Ytmnadajjgnniaaa.Q
end
section
set_option linter.unusedVariables false
set_option linter.unusedSimpArgs false
namespace Go.Proofs.Ytmnadajjgnniaaa.Pure
open Go.RowKit Go.Proofs.Ytmnadajjgnniaaa.MA Go.Proofs.Ytmnadajjgnniaaa.HOpen Go.Proofs.YtmnadajjgnniaaaW.PrintWords Go.Proofs.Ytmnadajjgnniaaa.Q

theorem keys_j0_true (k : Nat) (hk : 1000000000000001 ≤ k) (a b c : ByteArray) : pleachlaw31_KeysOf.j0 k a b c true = some true := by
  obtain ⟨k, rfl⟩ : ∃ m, k = m + 1 := ⟨k - 1, by omega⟩
  rw [pleachlaw31_KeysOf.j0, if_pos rfl, keys_awake_ev k (by omega)]
  rfl
theorem KeysOf : pleachlaw31_KeysOf.Pure := by
  intro a b c ha hb hc
  obtain ⟨k, hk⟩ : ∃ k, 3000000000000003 ≤ k := ⟨_, Nat.le_refl _⟩
  refine ⟨k, ?_⟩
  unfold pleachlaw31_KeysOf.f
  split
  · exact keys_j0_true k (by omega) _ _ _
  · split
    · exact keys_j0_true k (by omega) _ _ _
    · cases hd : decide ((c.size : Int) > 300) with
      | true => exact keys_j0_true k (by omega) _ _ _
      | false =>
        obtain ⟨k, rfl⟩ : ∃ m, k = m + 1 + 1 := ⟨k - 2, by omega⟩
        have last : pleachlaw31_KeysOf.j1 (k + 1) a b (if (nameB a && nameB b) = true then ((a ++ (⟨#[0]⟩ : ByteArray)) ++ b) else ⟨#[]⟩) (nameB a && nameB b) false = some true := by
          rw [pleachlaw31_KeysOf.j1, if_neg (by decide), keys_awake_ev k (by omega)]
          cases h : (nameB a && nameB b) with
          | false => simp
          | true =>
            simp at h
            simp only [if_true]
            rw [Parted_ev _ (by rw [ByteArray.size_append, ByteArray.size_append]; have := nameB_size' h.1; have := nameB_size' h.2; have : (⟨#[0]⟩ : ByteArray).size = 1 := rfl; omega) k (by omega), parted_of a b h.1 h.2]
            simp
        have ho := Of_ev a b ha hb (k + 1) (by omega)
        have hr := refOf_ev a b ha hb (k + 1) (by omega)
        have hp := Parted_ev c hc (k + 1) (by omega)
        have hq := refParted_ev c hc (k + 1) (by omega)
        have hg : keys_Begin.f a = some (a ++ (⟨#[0]⟩ : ByteArray)) := by unfold keys_Begin.f; rw [if_pos (by omega)]
        rw [pleachlaw31_KeysOf.j0, if_neg (by decide), ho, hr, hp, hq, hg]
        simp only [Option.bind_some]
        have h1 : a.size + 1 ≤ 9223372036854775807 := by omega
        cases h : (nameB a && nameB b) with
        | false =>
          rw [h] at last
          simp only [Bool.false_eq_true, if_false] at last
          cases h2 : (partedB c).2.2 with
          | false => simp [h1, last]
          | true => simp [h1, last]
        | true =>
          rw [h] at last
          simp only [if_true] at last
          cases h2 : (partedB c).2.2 with
          | false => simp [h1, last]
          | true => simp [h1, last]
end Go.Proofs.Ytmnadajjgnniaaa.Pure
end
