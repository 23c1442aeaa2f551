/- The evaluator of the program's form, its soundness, the functions of the given program as it evaluates them, and laws on these. Conditions: as each theorem says. -/
import Derived.Test.YthnhkaaodghpgaaDoorCValueTakesN2
import Derived.Test.YthnhkaaodghpgaaDoorProg
import Derived.Laws.BitsLemmas
import Derived.Test.YthnhkaaodghpgaaDoorRows
import Derived.WalkKit
import Derived.ProofKit
import Derived.OpenShut
import Derived.ShutString
import Derived.ChangeOld
import Derived.Below
import Derived.SizedLaws
import Derived.LaidMore
import Derived.Stop.Joined
import Derived.Test.YthnhkaaodghpgaaDoorTie
import Derived.Test.YthnhkaaodghpgaaDoorCards
import Derived.SevenTiedAt
section
set_option linter.unusedVariables false
set_option maxRecDepth 100000
namespace Go.Proofs.YthnhkaaodghpgaaDoor.AE
open Go
abbrev TValue : Type := Int × Int × ByteArray
abbrev sValue : Sh := (.prod (.int .i64) (.prod (.int .i64) .str))
abbrev TScan : Type := ByteArray × Int × Int
abbrev sScan : Sh := (.prod .str (.prod (.int .i64) (.int .i64)))
abbrev TScanx : Type := ByteArray × Int × Int × Bool
abbrev sScanx : Sh := (.prod .str (.prod (.int .i64) (.prod (.int .i64) .bool)))
def sgT : List (Nat × Sig) := [
  (3, { ps := [(.agg sValue)], vals := [.sc .bool] }),
  (4, { ps := [(.agg sValue), (.agg sValue), (.agg sValue)], vals := [.sc .bool] }),
  (5, { vals := [.sc .bool], excl := [(8, [2])] }),
  (8, { vals := [.sc .bool] }),
  (9, { ps := [(.agg sValue)], tup := true, vals := [.sc .str, .sc (.int .i64)] }),
  (10, { ps := [(.agg sValue)], vals := [.sc .bool] }),
  (11, { ps := [(.agg sValue)], vals := [.sc .str] }),
  (12, { ps := [(.agg sValue)], vals := [.sc (.int .i64)] }),
  (13, { ps := [(.agg sValue)], vals := [.sc .str] }),
  (14, { ps := [(.agg sValue)], vals := [.sc .str] }),
  (15, { ps := [(.agg sValue), (.agg sValue)], vals := [.sc .bool] }),
  (16, { ps := [(.agg sValue), (.agg sValue)], vals := [.sc (.int .i64)] }),
  (17, { tup := true, vals := [.agg sValue, .sc (.int .i64)] }),
  (18, { tup := true, vals := [.agg sValue, .sc (.int .i64)], excl := [(4, [0])] }),
  (19, { vals := [.ptr 62 sScanx] }),
  (20, { vals := [.agg sValue], blks := [.cells 0 sScanx] }),
  (21, { ps := [(.agg sScan)], tup := true, vals := [.agg sScan, .agg sValue], excl := [(13, [1, 2])] }),
  (22, { vals := [.sc (.int .i64)], blks := [.cells 0 sScanx] }),
  (23, { vals := [.sc (.int .i64)], blks := [.cells 0 sScanx] }),
  (26, { vals := [.sc .str] }),
  (27, { vals := [.sc .str] }),
  (28, { vals := [.sc .str] }),
  (29, { vals := [.sc (.int .u64)] }),
  (30, { vals := [.sc .str] }),
  (31, itoaSig),
  (32, { vals := [.sc .bool] }),
  (33, { vals := [.sc .str], excl := [(5, [0])] }),
  (34, { vals := [.sc .str] }),
  (35, { vals := [.sc .bool] }),
  (36, { vals := [.sc .str] }),
  (37, { ps := [(.sc (.list (.int .i64)))], vals := [.sc (.int .i64)] }),
  (38, { vals := [.sc (.int .i64)] }),
  (39, { vals := [.sc (.int .i64)] }),
  (40, { vals := [.sc (.int .i64)], blks := [.cells 0 sScanx], excl := [(1, [0])] }),
  (41, { ps := [(.agg sScan)], vals := [.agg sScan] }),
  (42, { vals := [.sc (.int .i64)], blks := [.cells 0 sScanx] }),
  (43, { vals := [.sc (.int .i64)], blks := [.cells 0 sScanx] }),
  (44, { vals := [.sc .str], blks := [.cells 0 sScanx] }),
  (45, { tup := true, blks := [.cells 0 sScanx] }),
  (46, { ps := [(.agg sScan)], tup := true, vals := [.agg sScan, .sc (.int .i64)], excl := [(4, [1])] }),
  (47, { ps := [(.agg sScan)], tup := true, vals := [.agg sScan, .sc (.int .i64)], excl := [(8, [1])] }),
  (48, { ps := [(.agg sScan), .raw], tup := true, vals := [.agg sScan, .sc .str] }),
  (52, { vals := [.sc .str] }),
  (53, { vals := [.sc .str] }),
  (54, { vals := [.own (.int .i64)] }),
  (56, contSig 57 badR),
  (58, { vals := [.sc .str] }),
  (59, { vals := [.sc .str] }),
  (60, { vals := [.sc .bool] }),
  (61, { vals := [.sc (.int .i64)] }),
  (62, { vals := [.sc .str], blks := [.cells 0 sScanx] }),
  (63, { tup := true, vals := [.sc (.int .i64), .sc (.int .i64), .sc .bool] }),
  (64, { tup := true, blks := [.cells 0 sScanx] }),
  (65, { vals := [.sc (.int .i64)], blks := [.cells 0 sScanx] }),
  (66, { ps := [(.agg sScan), .raw], tup := true, vals := [.agg sScan, .sc .str] }),
  (67, { tup := true, vals := [.sc (.int .u64), .sc (.int .i64), .sc .bool] }),
  (68, { vals := [.sc (.int .i64)] }),
  (69, { ps := [(.agg sScan), .raw], tup := true, vals := [.agg sScan, .sc (.int .i64)] }),
  (74, { vals := [.sc (.int .u64)] }),
  (77, { op := some opCompare }),
  (78, { tup := true, vals := [.sc (.int .u64), .sc (.int .i64), .sc .bool] }),
  (79, { vals := [.sc (.int .i64)] })]
abbrev sg : FuncId → Sig := sigOf sgT
noncomputable def F.value_Check (K : Nat) (a0 : TValue) : Option (Int) := evFn Tryd.prog sg K 12 [.agg [.val (.int .i64 a0.1), .val (.int .i64 a0.2.1), .val (.string a0.2.2)]] []
noncomputable def F.value_Check.B (a0 : TValue) : Option (Int) :=
    (bif (a0.1 == 1) then (bif (a0.2.1 == 0) then (bif (!(strEq a0.2.2 (⟨#[]⟩ : ByteArray))) then (some 2) else (some 0)) else (bif (a0.2.1 == 1) then (bif (!(strEq a0.2.2 (⟨#[]⟩ : ByteArray))) then (some 2) else (some 0)) else (some 2))) else (bif (a0.1 == 2) then (bif (!(strEq a0.2.2 (⟨#[]⟩ : ByteArray))) then (some 2) else (some 0)) else (bif (a0.1 == 3) then (bif (a0.2.1 == 0) then (bif (!(decide ((a0.2.2.size : Int) ≤ 64))) then (some 2) else (some 0)) else (some 2)) else (some 2))))
theorem F.value_Check.eq K a0 : F.value_Check (K + 1) a0 = F.value_Check.B a0 := by kernel_rfl
noncomputable def V.value_Check (a0 : TValue) := lim fun v => F.value_Check (v 0) a0
theorem V.value_Check.of a0 {r} (h : F.value_Check.B a0 = some r) : V.value_Check a0 = some r :=
  App.to (App.step 0 (fun v => F.value_Check.eq (v 0) a0) (by unfold F.value_Check.B; repeat' first | apply App.guard | apply App.cond | exact App.lim | exact App.val | exact App.no | apply App.meet | apply App.ite | refine App.bind ?_ fun _ => ?_)) h
noncomputable def F.varint_Zig (K : Nat) (a0 : Int) : Option (Int) := evFn Tryd.prog sg K 74 [.sc (.val (.int .i64 a0))] []
noncomputable def F.varint_Zig.B (a0 : Int) : Option (Int) :=
    (some (IntKind.wrap .u64 ((BitVec.ofInt 64 (IntKind.wrap .u64 ((IntKind.wrap .u64 a0) * 2 ^ 1)) ^^^ BitVec.ofInt 64 (IntKind.wrap .u64 (Int.fdiv a0 (2 ^ 63)))).toNat : Int)))
theorem F.varint_Zig.eq K a0 : F.varint_Zig (K + 1) a0 = F.varint_Zig.B a0 := by kernel_rfl
noncomputable def V.varint_Zig (a0 : Int) := lim fun v => F.varint_Zig (v 0) a0
theorem V.varint_Zig.of a0 {r} (h : F.varint_Zig.B a0 = some r) : V.varint_Zig a0 = some r :=
  App.to (App.step 0 (fun v => F.varint_Zig.eq (v 0) a0) (by unfold F.varint_Zig.B; repeat' first | apply App.guard | apply App.cond | exact App.lim | exact App.val | exact App.no | apply App.meet | apply App.ite | refine App.bind ?_ fun _ => ?_)) h
noncomputable def F.varint_Put (K : Nat) (a0 : Int) : Option (ByteArray) := evFn Tryd.prog sg K 53 [.sc (.val (.int .u64 a0))] []
noncomputable def F.varint_Put.at (K : Nat) (p ns : List Nat) (s : St) : Option (ByteArray) := atFn Tryd.prog sg K 53 0 p ns s
noncomputable def F.varint_Put.in (K : Nat) (H : List Nat → List Nat → St → Option (ByteArray)) (p ns : List Nat) (s : St) : Option (ByteArray) := inFn Tryd.prog sg K 53 0 [] H p ns s
theorem F.varint_Put.in_eq K p ns s : F.varint_Put.at K p ns s = F.varint_Put.in K (F.varint_Put.at K) p ns s := atFn_eq (P := Tryd.prog) (sg := sg) (K := K) (f := 53) (m := 0) [] p ns s
theorem F.varint_Put.in_main K a0 : F.varint_Put (K + 1) a0 = F.varint_Put.in K (F.varint_Put.at K) [] [] ⟨slots [.sc (.val (.int .u64 a0))] 0, []⟩ := evFn_eq (P := Tryd.prog) (sg := sg) (K := K) (f := 53) (args := [.sc (.val (.int .u64 a0))]) (σ := []) [] (by kernel_rfl)
def F.varint_Put.l11100.st (a0 : Int) (x0 : Int) (x1 : Int) (x2 : List Int) : St := ⟨[(0, .one (.sc (.val (.int .u64 x0)))), (3, .one (.sc (.eref 0 0 0))), (4, vI x1)], [.elems (.int .u8) x2]⟩
noncomputable def F.varint_Put.l11100 (K n0 : Nat) (a0 : Int) (x0 : Int) (x1 : Int) (x2 : List Int) := F.varint_Put.at K [1, 1, 1, 0, 0] [n0] (F.varint_Put.l11100.st a0 x0 x1 x2)
noncomputable def F.varint_Put.l11100.B (c0 : (Int) → (Int) → (Int) → (List Int) → Option (ByteArray)) (a0 : Int) (x0 : Int) (x1 : Int) (x2 : List Int) : Option (ByteArray) :=
    (bif (decide (x0 ≥ 128)) then (guardK (decide (0 ≤ x1) && decide (x1 < 10) && decide (x1 < (x2.length : Int))) (c0 a0 (Int.fdiv x0 (2 ^ 7)) (w64 (x1 + 1)) (x2.set x1.toNat (IntKind.wrap .u8 ((BitVec.ofInt 8 (IntKind.wrap .u8 x0) ||| BitVec.ofInt 8 128).toNat : Int))))) else (guardK (decide (0 ≤ x1) && decide (x1 < 10) && decide (x1 < (x2.length : Int))) (guardK (decide (0 ≤ (w64 (x1 + 1))) && decide ((w64 (x1 + 1)) ≤ 10) && decide (10 = (x2.set x1.toNat (IntKind.wrap .u8 x0)).length)) (some (bytesOf (((x2.set x1.toNat (IntKind.wrap .u8 x0)).take ((w64 (x1 + 1)).toNat)).drop 0))))))
theorem F.varint_Put.l11100.eq K n0 a0 x0 x1 x2 : F.varint_Put.l11100 K (n0 + 1) a0 x0 x1 x2 = F.varint_Put.l11100.B (F.varint_Put.l11100 K n0) a0 x0 x1 x2 := (F.varint_Put.in_eq K [1, 1, 1, 0, 0] [n0 + 1] (F.varint_Put.l11100.st a0 x0 x1 x2)).trans ((show ∀ H, F.varint_Put.in K H [1, 1, 1, 0, 0] [n0 + 1] (F.varint_Put.l11100.st a0 x0 x1 x2) = F.varint_Put.l11100.B (fun a0 x0 x1 x2 => H [1, 1, 1, 0, 0] [n0] (F.varint_Put.l11100.st a0 x0 x1 x2)) a0 x0 x1 x2 from by intro H; kernel_rfl) (F.varint_Put.at K))
noncomputable def F.varint_Put.B (c0 : (Int) → (Int) → (Int) → (List Int) → Option (ByteArray)) (a0 : Int) : Option (ByteArray) :=
    (c0 a0 a0 0 (repl 10 0))
theorem F.varint_Put.eq K a0 : F.varint_Put (K + 1) a0 = F.varint_Put.B (F.varint_Put.l11100 K K) a0 := (F.varint_Put.in_main K a0).trans ((show ∀ H, F.varint_Put.in K H [] [] ⟨slots [.sc (.val (.int .u64 a0))] 0, []⟩ = F.varint_Put.B (fun a0 x0 x1 x2 => H [1, 1, 1, 0, 0] [K] (F.varint_Put.l11100.st a0 x0 x1 x2)) a0 from by intro H; kernel_rfl) (F.varint_Put.at K))
noncomputable def V.varint_Put.l11100 (a0 : Int) (x0 : Int) (x1 : Int) (x2 : List Int) := lim fun v => F.varint_Put.l11100 (v 0) (v 1) a0 x0 x1 x2
noncomputable def V.varint_Put (a0 : Int) := lim fun v => F.varint_Put (v 0) a0
theorem V.varint_Put.l11100.of a0 x0 x1 x2 {r} (h : F.varint_Put.l11100.B V.varint_Put.l11100 a0 x0 x1 x2 = some r) : V.varint_Put.l11100 a0 x0 x1 x2 = some r :=
  App.to (App.step 1 (fun v => F.varint_Put.l11100.eq (v 0) (v 1) a0 x0 x1 x2) (by unfold F.varint_Put.l11100.B; repeat' first | apply App.guard | apply App.cond | exact App.lim | exact App.val | exact App.no | apply App.meet | apply App.ite | refine App.bind ?_ fun _ => ?_)) h
theorem V.varint_Put.of a0 {r} (h : F.varint_Put.B V.varint_Put.l11100 a0 = some r) : V.varint_Put a0 = some r :=
  App.to (App.step 0 (fun v => F.varint_Put.eq (v 0) a0) (by unfold F.varint_Put.B; repeat' first | apply App.guard | apply App.cond | exact App.lim | exact (App.enter 1 App.lim) | exact App.val | exact App.no | apply App.meet | apply App.ite | refine App.bind ?_ fun _ => ?_)) h
noncomputable def F.varint_Int (K : Nat) (a0 : Int) : Option (ByteArray) := evFn Tryd.prog sg K 52 [.sc (.val (.int .i64 a0))] []
noncomputable def F.varint_Int.B (c0 : (Int) → Option (Int)) (c1 : (Int) → Option (ByteArray)) (a0 : Int) : Option (ByteArray) :=
    ((c0 a0).bind fun t0 => ((c1 t0).bind fun t1 => (some t1)))
theorem F.varint_Int.eq K a0 : F.varint_Int (K + 1) a0 = F.varint_Int.B (F.varint_Zig K) (F.varint_Put K) a0 := by kernel_rfl
noncomputable def V.varint_Int (a0 : Int) := lim fun v => F.varint_Int (v 0) a0
theorem V.varint_Int.of a0 {r} (h : F.varint_Int.B V.varint_Zig V.varint_Put a0 = some r) : V.varint_Int a0 = some r :=
  App.to (App.step 0 (fun v => F.varint_Int.eq (v 0) a0) (by unfold F.varint_Int.B; repeat' first | apply App.guard | apply App.cond | exact App.lim | exact App.val | exact App.no | apply App.meet | apply App.ite | refine App.bind ?_ fun _ => ?_)) h
noncomputable def F.scan_PutInt (K : Nat) (a0 : Int) : Option (ByteArray) := evFn Tryd.prog sg K 26 [.sc (.val (.int .i64 a0))] []
noncomputable def F.scan_PutInt.B (c0 : (Int) → Option (ByteArray)) (a0 : Int) : Option (ByteArray) :=
    ((c0 a0).bind fun t0 => (some t0))
theorem F.scan_PutInt.eq K a0 : F.scan_PutInt (K + 1) a0 = F.scan_PutInt.B (F.varint_Int K) a0 := by kernel_rfl
noncomputable def V.scan_PutInt (a0 : Int) := lim fun v => F.scan_PutInt (v 0) a0
theorem V.scan_PutInt.of a0 {r} (h : F.scan_PutInt.B V.varint_Int a0 = some r) : V.scan_PutInt a0 = some r :=
  App.to (App.step 0 (fun v => F.scan_PutInt.eq (v 0) a0) (by unfold F.scan_PutInt.B; repeat' first | apply App.guard | apply App.cond | exact App.lim | exact App.val | exact App.no | apply App.meet | apply App.ite | refine App.bind ?_ fun _ => ?_)) h
noncomputable def F.scan_PutText (K : Nat) (a0 : ByteArray) : Option (ByteArray) := evFn Tryd.prog sg K 27 [.sc (.val (.string a0))] []
noncomputable def F.scan_PutText.B (c0 : (Int) → Option (ByteArray)) (a0 : ByteArray) : Option (ByteArray) :=
    ((c0 (IntKind.wrap .u64 (a0.size : Int))).bind fun t0 => (guardK (decide (t0.size + a0.size ≤ i64max)) (some (t0 ++ a0))))
theorem F.scan_PutText.eq K a0 : F.scan_PutText (K + 1) a0 = F.scan_PutText.B (F.varint_Put K) a0 := by kernel_rfl
noncomputable def V.scan_PutText (a0 : ByteArray) := lim fun v => F.scan_PutText (v 0) a0
theorem V.scan_PutText.of a0 {r} (h : F.scan_PutText.B V.varint_Put a0 = some r) : V.scan_PutText a0 = some r :=
  App.to (App.step 0 (fun v => F.scan_PutText.eq (v 0) a0) (by unfold F.scan_PutText.B; repeat' first | apply App.guard | apply App.cond | exact App.lim | exact App.val | exact App.no | apply App.meet | apply App.ite | refine App.bind ?_ fun _ => ?_)) h
noncomputable def F.value_Put (K : Nat) (a0 : TValue) : Option (ByteArray × Int) := evFn Tryd.prog sg K 9 [.agg [.val (.int .i64 a0.1), .val (.int .i64 a0.2.1), .val (.string a0.2.2)]] []
noncomputable def F.value_Put.B (c0 : (TValue) → Option (Int)) (c1 : (Int) → Option (ByteArray)) (c2 : (ByteArray) → Option (ByteArray)) (a0 : TValue) : Option (ByteArray × Int) :=
    ((c0 (a0.1, a0.2.1, a0.2.2)).bind fun t0 => (bif (t0 != 0) then (some ((⟨#[]⟩ : ByteArray), t0)) else (bif (a0.1 == 1) then (guardK (decide ((bytesOf ([(IntKind.wrap .u8 a0.1)])).size + (bytesOf ([(IntKind.wrap .u8 a0.2.1)])).size ≤ i64max)) (some (((bytesOf ([(IntKind.wrap .u8 a0.1)])) ++ (bytesOf ([(IntKind.wrap .u8 a0.2.1)]))), 0))) else (bif (a0.1 == 2) then ((c1 a0.2.1).bind fun t1 => (guardK (decide ((bytesOf ([(IntKind.wrap .u8 a0.1)])).size + t1.size ≤ i64max)) (some (((bytesOf ([(IntKind.wrap .u8 a0.1)])) ++ t1), 0)))) else ((c2 a0.2.2).bind fun t2 => (guardK (decide ((bytesOf ([(IntKind.wrap .u8 a0.1)])).size + t2.size ≤ i64max)) (some (((bytesOf ([(IntKind.wrap .u8 a0.1)])) ++ t2), 0))))))))
theorem F.value_Put.eq K a0 : F.value_Put (K + 1) a0 = F.value_Put.B (F.value_Check K) (F.scan_PutInt K) (F.scan_PutText K) a0 := by kernel_rfl
noncomputable def V.value_Put (a0 : TValue) := lim fun v => F.value_Put (v 0) a0
theorem V.value_Put.of a0 {r} (h : F.value_Put.B V.value_Check V.scan_PutInt V.scan_PutText a0 = some r) : V.value_Put a0 = some r :=
  App.to (App.step 0 (fun v => F.value_Put.eq (v 0) a0) (by unfold F.value_Put.B; repeat' first | apply App.guard | apply App.cond | exact App.lim | exact App.val | exact App.no | apply App.meet | apply App.ite | refine App.bind ?_ fun _ => ?_)) h
noncomputable def F.strconv_Itoa (K : Nat) (a0 : Int) : Option (ByteArray) := evFn Tryd.prog sg K 31 [.sc (.val (.int .i64 a0))] []
noncomputable def F.strconv_Itoa.B (a0 : Int) : Option (ByteArray) :=
    (itoaB a0)
theorem F.strconv_Itoa.eq K a0 : F.strconv_Itoa (K + 1) a0 = F.strconv_Itoa.B a0 := by kernel_rfl
noncomputable def V.strconv_Itoa (a0 : Int) := lim fun v => F.strconv_Itoa (v 0) a0
theorem V.strconv_Itoa.of a0 {r} (h : F.strconv_Itoa.B a0 = some r) : V.strconv_Itoa a0 = some r :=
  App.to (App.step 0 (fun v => F.strconv_Itoa.eq (v 0) a0) App.const) h
noncomputable def F.strings_ContainsFunc_by_value_plain_1 (K : Nat) (a0 : ByteArray) : Option (Bool) := evFn Tryd.prog sg K 56 [.sc (.val (.string a0)), .sc (.fn 57 [])] []
noncomputable def F.strings_ContainsFunc_by_value_plain_1.B (a0 : ByteArray) : Option (Bool) :=
    (some (hasR badR a0))
theorem F.strings_ContainsFunc_by_value_plain_1.eq K a0 : F.strings_ContainsFunc_by_value_plain_1 (K + 1) a0 = F.strings_ContainsFunc_by_value_plain_1.B a0 := by kernel_rfl
noncomputable def V.strings_ContainsFunc_by_value_plain_1 (a0 : ByteArray) := lim fun v => F.strings_ContainsFunc_by_value_plain_1 (v 0) a0
theorem V.strings_ContainsFunc_by_value_plain_1.of a0 {r} (h : F.strings_ContainsFunc_by_value_plain_1.B a0 = some r) : V.strings_ContainsFunc_by_value_plain_1 a0 = some r :=
  App.to (App.step 0 (fun v => F.strings_ContainsFunc_by_value_plain_1.eq (v 0) a0) App.const) h
noncomputable def F.value_plain (K : Nat) (a0 : ByteArray) : Option (Bool) := evFn Tryd.prog sg K 32 [.sc (.val (.string a0))] []
noncomputable def F.value_plain.B (c0 : (ByteArray) → Option (Bool)) (a0 : ByteArray) : Option (Bool) :=
    ((c0 a0).bind fun t0 => (some (!t0)))
theorem F.value_plain.eq K a0 : F.value_plain (K + 1) a0 = F.value_plain.B (F.strings_ContainsFunc_by_value_plain_1 K) a0 := by kernel_rfl
noncomputable def V.value_plain (a0 : ByteArray) := lim fun v => F.value_plain (v 0) a0
theorem V.value_plain.of a0 {r} (h : F.value_plain.B V.strings_ContainsFunc_by_value_plain_1 a0 = some r) : V.value_plain a0 = some r :=
  App.to (App.step 0 (fun v => F.value_plain.eq (v 0) a0) (by unfold F.value_plain.B; repeat' first | apply App.guard | apply App.cond | exact App.lim | exact App.val | exact App.no | apply App.meet | apply App.ite | refine App.bind ?_ fun _ => ?_)) h
noncomputable def F.sha_Hex (K : Nat) (a0 : ByteArray) : Option (ByteArray) := evFn Tryd.prog sg K 33 [.sc (.val (.string a0))] []
noncomputable def F.sha_Hex.at (K : Nat) (p ns : List Nat) (s : St) : Option (ByteArray) := atFn Tryd.prog sg K 33 0 p ns s
noncomputable def F.sha_Hex.in (K : Nat) (H : List Nat → List Nat → St → Option (ByteArray)) (p ns : List Nat) (s : St) : Option (ByteArray) := inFn Tryd.prog sg K 33 0 [] H p ns s
theorem F.sha_Hex.in_eq K p ns s : F.sha_Hex.at K p ns s = F.sha_Hex.in K (F.sha_Hex.at K) p ns s := atFn_eq (P := Tryd.prog) (sg := sg) (K := K) (f := 33) (m := 0) [] p ns s
theorem F.sha_Hex.in_main K a0 : F.sha_Hex (K + 1) a0 = F.sha_Hex.in K (F.sha_Hex.at K) [] [] ⟨slots [.sc (.val (.string a0))] 0, []⟩ := evFn_eq (P := Tryd.prog) (sg := sg) (K := K) (f := 33) (args := [.sc (.val (.string a0))]) (σ := []) [] (by kernel_rfl)
def F.sha_Hex.l11010.st (a0 : ByteArray) (x0 : Int) (x1 : List Int) : St := ⟨[(0, vS a0), (3, .one (.sc (.own 0 none))), (10, vI (a0.size : Int)), (11, vI x0)], [.elems (.int .u8) x1]⟩
noncomputable def F.sha_Hex.l11010 (K n0 : Nat) (a0 : ByteArray) (x0 : Int) (x1 : List Int) := F.sha_Hex.at K [1, 1, 0, 1, 0] [n0] (F.sha_Hex.l11010.st a0 x0 x1)
noncomputable def F.sha_Hex.l11010.B (c0 : (ByteArray) → (Int) → (List Int) → Option (ByteArray)) (a0 : ByteArray) (x0 : Int) (x1 : List Int) : Option (ByteArray) :=
    (bif (decide (x0 < (a0.size : Int))) then (guardK (decide (0 ≤ x0) && decide (x0 < (a0.size : Int))) (guardK (decide (0 ≤ (Int.fdiv (byteAt a0 x0) (2 ^ 4))) && decide ((Int.fdiv (byteAt a0 x0) (2 ^ 4)) < ((⟨#[48, 49, 50, 51, 52, 53, 54, 55, 56, 57, 97, 98, 99, 100, 101, 102]⟩ : ByteArray).size : Int))) (guardK (decide (0 ≤ x0) && decide (x0 < (a0.size : Int))) (guardK (decide (0 ≤ (IntKind.wrap .u8 ((BitVec.ofInt 8 (byteAt a0 x0) &&& BitVec.ofInt 8 15).toNat : Int))) && decide ((IntKind.wrap .u8 ((BitVec.ofInt 8 (byteAt a0 x0) &&& BitVec.ofInt 8 15).toNat : Int)) < ((⟨#[48, 49, 50, 51, 52, 53, 54, 55, 56, 57, 97, 98, 99, 100, 101, 102]⟩ : ByteArray).size : Int))) (guardK (decide (x1.length + ([(byteAt (⟨#[48, 49, 50, 51, 52, 53, 54, 55, 56, 57, 97, 98, 99, 100, 101, 102]⟩ : ByteArray) (Int.fdiv (byteAt a0 x0) (2 ^ 4))), (byteAt (⟨#[48, 49, 50, 51, 52, 53, 54, 55, 56, 57, 97, 98, 99, 100, 101, 102]⟩ : ByteArray) (IntKind.wrap .u8 ((BitVec.ofInt 8 (byteAt a0 x0) &&& BitVec.ofInt 8 15).toNat : Int)))]).length ≤ nmax)) (c0 a0 (w64 (x0 + 1)) (x1 ++ [(byteAt (⟨#[48, 49, 50, 51, 52, 53, 54, 55, 56, 57, 97, 98, 99, 100, 101, 102]⟩ : ByteArray) (Int.fdiv (byteAt a0 x0) (2 ^ 4))), (byteAt (⟨#[48, 49, 50, 51, 52, 53, 54, 55, 56, 57, 97, 98, 99, 100, 101, 102]⟩ : ByteArray) (IntKind.wrap .u8 ((BitVec.ofInt 8 (byteAt a0 x0) &&& BitVec.ofInt 8 15).toNat : Int)))]))))))) else (some (bytesOf x1)))
theorem F.sha_Hex.l11010.eq K n0 a0 x0 x1 : F.sha_Hex.l11010 K (n0 + 1) a0 x0 x1 = F.sha_Hex.l11010.B (F.sha_Hex.l11010 K n0) a0 x0 x1 := (F.sha_Hex.in_eq K [1, 1, 0, 1, 0] [n0 + 1] (F.sha_Hex.l11010.st a0 x0 x1)).trans ((show ∀ H, F.sha_Hex.in K H [1, 1, 0, 1, 0] [n0 + 1] (F.sha_Hex.l11010.st a0 x0 x1) = F.sha_Hex.l11010.B (fun a0 x0 x1 => H [1, 1, 0, 1, 0] [n0] (F.sha_Hex.l11010.st a0 x0 x1)) a0 x0 x1 from by intro H; kernel_rfl) (F.sha_Hex.at K))
noncomputable def F.sha_Hex.B (c0 : (ByteArray) → (Int) → (List Int) → Option (ByteArray)) (a0 : ByteArray) : Option (ByteArray) :=
    (guardK (decide (0 ≤ (w64 (2 * (a0.size : Int)))) && decide ((w64 (2 * (a0.size : Int))) ≤ 17179869184)) (c0 a0 0 ([])))
theorem F.sha_Hex.eq K a0 : F.sha_Hex (K + 1) a0 = F.sha_Hex.B (F.sha_Hex.l11010 K K) a0 := (F.sha_Hex.in_main K a0).trans ((show ∀ H, F.sha_Hex.in K H [] [] ⟨slots [.sc (.val (.string a0))] 0, []⟩ = F.sha_Hex.B (fun a0 x0 x1 => H [1, 1, 0, 1, 0] [K] (F.sha_Hex.l11010.st a0 x0 x1)) a0 from by intro H; kernel_rfl) (F.sha_Hex.at K))
noncomputable def V.sha_Hex.l11010 (a0 : ByteArray) (x0 : Int) (x1 : List Int) := lim fun v => F.sha_Hex.l11010 (v 0) (v 1) a0 x0 x1
noncomputable def V.sha_Hex (a0 : ByteArray) := lim fun v => F.sha_Hex (v 0) a0
theorem V.sha_Hex.l11010.of a0 x0 x1 {r} (h : F.sha_Hex.l11010.B V.sha_Hex.l11010 a0 x0 x1 = some r) : V.sha_Hex.l11010 a0 x0 x1 = some r :=
  App.to (App.step 1 (fun v => F.sha_Hex.l11010.eq (v 0) (v 1) a0 x0 x1) (by unfold F.sha_Hex.l11010.B; repeat' first | apply App.guard | apply App.cond | exact App.lim | exact App.val | exact App.no | apply App.meet | apply App.ite | refine App.bind ?_ fun _ => ?_)) h
theorem V.sha_Hex.of a0 {r} (h : F.sha_Hex.B V.sha_Hex.l11010 a0 = some r) : V.sha_Hex a0 = some r :=
  App.to (App.step 0 (fun v => F.sha_Hex.eq (v 0) a0) (by unfold F.sha_Hex.B; repeat' first | apply App.guard | apply App.cond | exact App.lim | exact (App.enter 1 App.lim) | exact App.val | exact App.no | apply App.meet | apply App.ite | refine App.bind ?_ fun _ => ?_)) h
noncomputable def F.value_Show (K : Nat) (a0 : TValue) : Option (ByteArray) := evFn Tryd.prog sg K 13 [.agg [.val (.int .i64 a0.1), .val (.int .i64 a0.2.1), .val (.string a0.2.2)]] []
noncomputable def F.value_Show.B (c0 : (TValue) → Option (Int)) (c1 : (Int) → Option (ByteArray)) (c2 : (ByteArray) → Option (Bool)) (c3 : (ByteArray) → Option (ByteArray)) (a0 : TValue) : Option (ByteArray) :=
    ((c0 (a0.1, a0.2.1, a0.2.2)).bind fun t0 => (bif (t0 != 0) then (some (⟨#[]⟩ : ByteArray)) else (bif (a0.1 == 1) then (bif (a0.2.1 == 1) then (some (⟨#[116, 114, 117, 101]⟩ : ByteArray)) else (bif (a0.1 == 1) then (some (⟨#[102, 97, 108, 115, 101]⟩ : ByteArray)) else (bif (a0.1 == 2) then ((c1 a0.2.1).bind fun t1 => (some t1)) else ((c2 a0.2.2).bind fun t2 => (bif t2 then (guardK (decide ((⟨#[39]⟩ : ByteArray).size + a0.2.2.size ≤ i64max)) (some ((⟨#[39]⟩ : ByteArray) ++ a0.2.2))) else ((c3 a0.2.2).bind fun t3 => (guardK (decide ((⟨#[35]⟩ : ByteArray).size + t3.size ≤ i64max)) (some ((⟨#[35]⟩ : ByteArray) ++ t3))))))))) else (bif (a0.1 == 1) then (some (⟨#[102, 97, 108, 115, 101]⟩ : ByteArray)) else (bif (a0.1 == 2) then ((c1 a0.2.1).bind fun t4 => (some t4)) else ((c2 a0.2.2).bind fun t5 => (bif t5 then (guardK (decide ((⟨#[39]⟩ : ByteArray).size + a0.2.2.size ≤ i64max)) (some ((⟨#[39]⟩ : ByteArray) ++ a0.2.2))) else ((c3 a0.2.2).bind fun t6 => (guardK (decide ((⟨#[35]⟩ : ByteArray).size + t6.size ≤ i64max)) (some ((⟨#[35]⟩ : ByteArray) ++ t6)))))))))))
theorem F.value_Show.eq K a0 : F.value_Show (K + 1) a0 = F.value_Show.B (F.value_Check K) (F.strconv_Itoa K) (F.value_plain K) (F.sha_Hex K) a0 := by kernel_rfl
noncomputable def V.value_Show (a0 : TValue) := lim fun v => F.value_Show (v 0) a0
theorem V.value_Show.of a0 {r} (h : F.value_Show.B V.value_Check V.strconv_Itoa V.value_plain V.sha_Hex a0 = some r) : V.value_Show a0 = some r :=
  App.to (App.step 0 (fun v => F.value_Show.eq (v 0) a0) (by unfold F.value_Show.B; repeat' first | apply App.guard | apply App.cond | exact App.lim | exact App.val | exact App.no | apply App.meet | apply App.ite | refine App.bind ?_ fun _ => ?_)) h
noncomputable def F.pleachlaw06_awake (K : Nat) : Option (Bool) := evFn Tryd.prog sg K 8 [] []
noncomputable def F.pleachlaw06_awake.B (c0 : (TValue) → Option (ByteArray × Int)) (c1 : (TValue) → Option (ByteArray)) : Option (Bool) :=
    ((c0 (2, (-1), (⟨#[]⟩ : ByteArray))).bind fun t0 => (bif (strEq t0.1 (⟨#[2, 1]⟩ : ByteArray)) then (bif (t0.2 == 0) then ((c1 (3, 0, (⟨#[97, 32, 98]⟩ : ByteArray))).bind fun t1 => (some (strEq t1 (⟨#[35, 54, 49, 50, 48, 54, 50]⟩ : ByteArray)))) else (some false)) else (some false)))
theorem F.pleachlaw06_awake.eq K : F.pleachlaw06_awake (K + 1) = F.pleachlaw06_awake.B (F.value_Put K) (F.value_Show K) := by kernel_rfl
noncomputable def V.pleachlaw06_awake := lim fun v => F.pleachlaw06_awake (v 0)
theorem V.pleachlaw06_awake.of {r} (h : F.pleachlaw06_awake.B V.value_Put V.value_Show = some r) : V.pleachlaw06_awake = some r :=
  App.to (App.step 0 (fun v => F.pleachlaw06_awake.eq (v 0)) (by unfold F.pleachlaw06_awake.B; repeat' first | apply App.guard | apply App.cond | exact App.lim | exact App.val | exact App.no | apply App.meet | apply App.ite | refine App.bind ?_ fun _ => ?_)) h
noncomputable def F.pleachref06_Is (K : Nat) (a0 : TValue) : Option (Bool) := evFn Tryd.prog sg K 10 [.agg [.val (.int .i64 a0.1), .val (.int .i64 a0.2.1), .val (.string a0.2.2)]] []
noncomputable def F.pleachref06_Is.B (a0 : TValue) : Option (Bool) :=
    (bif (a0.1 == 1) then (bif (decide (a0.2.1 ≥ 0)) then (bif (decide (a0.2.1 ≤ 1)) then (some (strEq a0.2.2 (⟨#[]⟩ : ByteArray))) else (some false)) else (some false)) else (bif (a0.1 == 2) then (some (strEq a0.2.2 (⟨#[]⟩ : ByteArray))) else (bif (a0.1 == 3) then (bif (a0.2.1 == 0) then (some (decide ((a0.2.2.size : Int) ≤ 64))) else (some false)) else (some false))))
theorem F.pleachref06_Is.eq K a0 : F.pleachref06_Is (K + 1) a0 = F.pleachref06_Is.B a0 := by kernel_rfl
noncomputable def V.pleachref06_Is (a0 : TValue) := lim fun v => F.pleachref06_Is (v 0) a0
theorem V.pleachref06_Is.of a0 {r} (h : F.pleachref06_Is.B a0 = some r) : V.pleachref06_Is a0 = some r :=
  App.to (App.step 0 (fun v => F.pleachref06_Is.eq (v 0) a0) (by unfold F.pleachref06_Is.B; repeat' first | apply App.guard | apply App.cond | exact App.lim | exact App.val | exact App.no | apply App.meet | apply App.ite | refine App.bind ?_ fun _ => ?_)) h
noncomputable def F.pleachref01_Digits (K : Nat) (a0 : Int) : Option ((List Int)) := evFn Tryd.prog sg K 54 [.sc (.val (.int .u64 a0))] []
noncomputable def F.pleachref01_Digits.at (K : Nat) (p ns : List Nat) (s : St) : Option ((List Int)) := atFn Tryd.prog sg K 54 0 p ns s
noncomputable def F.pleachref01_Digits.in (K : Nat) (H : List Nat → List Nat → St → Option ((List Int))) (p ns : List Nat) (s : St) : Option ((List Int)) := inFn Tryd.prog sg K 54 0 [] H p ns s
theorem F.pleachref01_Digits.in_eq K p ns s : F.pleachref01_Digits.at K p ns s = F.pleachref01_Digits.in K (F.pleachref01_Digits.at K) p ns s := atFn_eq (P := Tryd.prog) (sg := sg) (K := K) (f := 54) (m := 0) [] p ns s
theorem F.pleachref01_Digits.in_main K a0 : F.pleachref01_Digits (K + 1) a0 = F.pleachref01_Digits.in K (F.pleachref01_Digits.at K) [] [] ⟨slots [.sc (.val (.int .u64 a0))] 0, []⟩ := evFn_eq (P := Tryd.prog) (sg := sg) (K := K) (f := 54) (args := [.sc (.val (.int .u64 a0))]) (σ := []) [] (by kernel_rfl)
def F.pleachref01_Digits.l11100.st (a0 : Int) (x0 : Int) (x1 : List Int) : St := ⟨[(0, .one (.sc (.val (.int .u64 x0)))), (3, .one (.sc (.own 0 none)))], [.elems (.int .i64) x1]⟩
noncomputable def F.pleachref01_Digits.l11100 (K n0 : Nat) (a0 : Int) (x0 : Int) (x1 : List Int) := F.pleachref01_Digits.at K [1, 1, 1, 0, 0] [n0] (F.pleachref01_Digits.l11100.st a0 x0 x1)
noncomputable def F.pleachref01_Digits.l11100.B (c0 : (Int) → (Int) → (List Int) → Option ((List Int))) (a0 : Int) (x0 : Int) (x1 : List Int) : Option ((List Int)) :=
    (bif (decide (x0 > 0)) then (guardK (decide (x1.length + ([(w64 (Int.tmod x0 128))]).length ≤ nmax)) (c0 a0 (IntKind.wrap .u64 (Int.tdiv x0 128)) (x1 ++ [(w64 (Int.tmod x0 128))]))) else (some x1))
theorem F.pleachref01_Digits.l11100.eq K n0 a0 x0 x1 : F.pleachref01_Digits.l11100 K (n0 + 1) a0 x0 x1 = F.pleachref01_Digits.l11100.B (F.pleachref01_Digits.l11100 K n0) a0 x0 x1 := (F.pleachref01_Digits.in_eq K [1, 1, 1, 0, 0] [n0 + 1] (F.pleachref01_Digits.l11100.st a0 x0 x1)).trans ((show ∀ H, F.pleachref01_Digits.in K H [1, 1, 1, 0, 0] [n0 + 1] (F.pleachref01_Digits.l11100.st a0 x0 x1) = F.pleachref01_Digits.l11100.B (fun a0 x0 x1 => H [1, 1, 1, 0, 0] [n0] (F.pleachref01_Digits.l11100.st a0 x0 x1)) a0 x0 x1 from by intro H; kernel_rfl) (F.pleachref01_Digits.at K))
noncomputable def F.pleachref01_Digits.B (c0 : (Int) → (Int) → (List Int) → Option ((List Int))) (a0 : Int) : Option ((List Int)) :=
    (c0 a0 (IntKind.wrap .u64 (Int.tdiv a0 128)) ([(w64 (Int.tmod a0 128))]))
theorem F.pleachref01_Digits.eq K a0 : F.pleachref01_Digits (K + 1) a0 = F.pleachref01_Digits.B (F.pleachref01_Digits.l11100 K K) a0 := (F.pleachref01_Digits.in_main K a0).trans ((show ∀ H, F.pleachref01_Digits.in K H [] [] ⟨slots [.sc (.val (.int .u64 a0))] 0, []⟩ = F.pleachref01_Digits.B (fun a0 x0 x1 => H [1, 1, 1, 0, 0] [K] (F.pleachref01_Digits.l11100.st a0 x0 x1)) a0 from by intro H; kernel_rfl) (F.pleachref01_Digits.at K))
noncomputable def V.pleachref01_Digits.l11100 (a0 : Int) (x0 : Int) (x1 : List Int) := lim fun v => F.pleachref01_Digits.l11100 (v 0) (v 1) a0 x0 x1
noncomputable def V.pleachref01_Digits (a0 : Int) := lim fun v => F.pleachref01_Digits (v 0) a0
theorem V.pleachref01_Digits.l11100.of a0 x0 x1 {r} (h : F.pleachref01_Digits.l11100.B V.pleachref01_Digits.l11100 a0 x0 x1 = some r) : V.pleachref01_Digits.l11100 a0 x0 x1 = some r :=
  App.to (App.step 1 (fun v => F.pleachref01_Digits.l11100.eq (v 0) (v 1) a0 x0 x1) (by unfold F.pleachref01_Digits.l11100.B; repeat' first | apply App.guard | apply App.cond | exact App.lim | exact App.val | exact App.no | apply App.meet | apply App.ite | refine App.bind ?_ fun _ => ?_)) h
theorem V.pleachref01_Digits.of a0 {r} (h : F.pleachref01_Digits.B V.pleachref01_Digits.l11100 a0 = some r) : V.pleachref01_Digits a0 = some r :=
  App.to (App.step 0 (fun v => F.pleachref01_Digits.eq (v 0) a0) (by unfold F.pleachref01_Digits.B; repeat' first | apply App.guard | apply App.cond | exact App.lim | exact (App.enter 1 App.lim) | exact App.val | exact App.no | apply App.meet | apply App.ite | refine App.bind ?_ fun _ => ?_)) h
noncomputable def F.pleachref01_Put (K : Nat) (a0 : Int) : Option (ByteArray) := evFn Tryd.prog sg K 28 [.sc (.val (.int .u64 a0))] []
noncomputable def F.pleachref01_Put.at (K : Nat) (p ns : List Nat) (s : St) : Option (ByteArray) := atFn Tryd.prog sg K 28 0 p ns s
noncomputable def F.pleachref01_Put.in (K : Nat) (H : List Nat → List Nat → St → Option (ByteArray)) (p ns : List Nat) (s : St) : Option (ByteArray) := inFn Tryd.prog sg K 28 0 [] H p ns s
theorem F.pleachref01_Put.in_eq K p ns s : F.pleachref01_Put.at K p ns s = F.pleachref01_Put.in K (F.pleachref01_Put.at K) p ns s := atFn_eq (P := Tryd.prog) (sg := sg) (K := K) (f := 28) (m := 0) [] p ns s
theorem F.pleachref01_Put.in_main K a0 : F.pleachref01_Put (K + 1) a0 = F.pleachref01_Put.in K (F.pleachref01_Put.at K) [] [] ⟨slots [.sc (.val (.int .u64 a0))] 0, []⟩ := evFn_eq (P := Tryd.prog) (sg := sg) (K := K) (f := 28) (args := [.sc (.val (.int .u64 a0))]) (σ := []) [] (by kernel_rfl)
def F.pleachref01_Put.l111010.st (a0 : Int) (x0 : ByteArray) (x1 : Int) (x2 : List Int) : St := ⟨[(3, .one (.sc (.own 0 none))), (4, vS x0), (5, vI x1)], [.elems (.int .i64) x2]⟩
noncomputable def F.pleachref01_Put.l111010 (K n0 : Nat) (a0 : Int) (x0 : ByteArray) (x1 : Int) (x2 : List Int) := F.pleachref01_Put.at K [1, 1, 1, 0, 1, 0] [n0] (F.pleachref01_Put.l111010.st a0 x0 x1 x2)
noncomputable def F.pleachref01_Put.l111010.B (c0 : (Int) → (ByteArray) → (Int) → (List Int) → Option (ByteArray)) (a0 : Int) (x0 : ByteArray) (x1 : Int) (x2 : List Int) : Option (ByteArray) :=
    (bif (decide (x1 < (x2.length : Int))) then (guardK (decide (0 ≤ x1) && decide (x1 < (x2.length : Int))) (bif (decide ((w64 (x1 + 1)) < (x2.length : Int))) then (guardK (decide (x0.size + (bytesOf ([(IntKind.wrap .u8 (w64 ((rd (.int .i64) x2 x1.toNat) + 128)))])).size ≤ i64max)) (c0 a0 (x0 ++ (bytesOf ([(IntKind.wrap .u8 (w64 ((rd (.int .i64) x2 x1.toNat) + 128)))]))) (w64 (x1 + 1)) x2)) else (guardK (decide (x0.size + (bytesOf ([(IntKind.wrap .u8 (rd (.int .i64) x2 x1.toNat))])).size ≤ i64max)) (c0 a0 (x0 ++ (bytesOf ([(IntKind.wrap .u8 (rd (.int .i64) x2 x1.toNat))]))) (w64 (x1 + 1)) x2)))) else (some x0))
theorem F.pleachref01_Put.l111010.eq K n0 a0 x0 x1 x2 : F.pleachref01_Put.l111010 K (n0 + 1) a0 x0 x1 x2 = F.pleachref01_Put.l111010.B (F.pleachref01_Put.l111010 K n0) a0 x0 x1 x2 := (F.pleachref01_Put.in_eq K [1, 1, 1, 0, 1, 0] [n0 + 1] (F.pleachref01_Put.l111010.st a0 x0 x1 x2)).trans ((show ∀ H, F.pleachref01_Put.in K H [1, 1, 1, 0, 1, 0] [n0 + 1] (F.pleachref01_Put.l111010.st a0 x0 x1 x2) = F.pleachref01_Put.l111010.B (fun a0 x0 x1 x2 => H [1, 1, 1, 0, 1, 0] [n0] (F.pleachref01_Put.l111010.st a0 x0 x1 x2)) a0 x0 x1 x2 from by intro H; kernel_rfl) (F.pleachref01_Put.at K))
noncomputable def F.pleachref01_Put.B (c0 : (Int) → Option ((List Int))) (c1 : (Int) → (ByteArray) → (Int) → (List Int) → Option (ByteArray)) (a0 : Int) : Option (ByteArray) :=
    ((c0 a0).bind fun t0 => (c1 a0 (⟨#[]⟩ : ByteArray) 0 t0))
theorem F.pleachref01_Put.eq K a0 : F.pleachref01_Put (K + 1) a0 = F.pleachref01_Put.B (F.pleachref01_Digits K) (F.pleachref01_Put.l111010 K K) a0 := (F.pleachref01_Put.in_main K a0).trans ((show ∀ H, F.pleachref01_Put.in K H [] [] ⟨slots [.sc (.val (.int .u64 a0))] 0, []⟩ = F.pleachref01_Put.B (F.pleachref01_Digits K) (fun a0 x0 x1 x2 => H [1, 1, 1, 0, 1, 0] [K] (F.pleachref01_Put.l111010.st a0 x0 x1 x2)) a0 from by intro H; kernel_rfl) (F.pleachref01_Put.at K))
noncomputable def V.pleachref01_Put.l111010 (a0 : Int) (x0 : ByteArray) (x1 : Int) (x2 : List Int) := lim fun v => F.pleachref01_Put.l111010 (v 0) (v 1) a0 x0 x1 x2
noncomputable def V.pleachref01_Put (a0 : Int) := lim fun v => F.pleachref01_Put (v 0) a0
theorem V.pleachref01_Put.l111010.of a0 x0 x1 x2 {r} (h : F.pleachref01_Put.l111010.B V.pleachref01_Put.l111010 a0 x0 x1 x2 = some r) : V.pleachref01_Put.l111010 a0 x0 x1 x2 = some r :=
  App.to (App.step 1 (fun v => F.pleachref01_Put.l111010.eq (v 0) (v 1) a0 x0 x1 x2) (by unfold F.pleachref01_Put.l111010.B; repeat' first | apply App.guard | apply App.cond | exact App.lim | exact App.val | exact App.no | apply App.meet | apply App.ite | refine App.bind ?_ fun _ => ?_)) h
theorem V.pleachref01_Put.of a0 {r} (h : F.pleachref01_Put.B V.pleachref01_Digits V.pleachref01_Put.l111010 a0 = some r) : V.pleachref01_Put a0 = some r :=
  App.to (App.step 0 (fun v => F.pleachref01_Put.eq (v 0) a0) (by unfold F.pleachref01_Put.B; repeat' first | apply App.guard | apply App.cond | exact App.lim | exact (App.enter 1 App.lim) | exact App.val | exact App.no | apply App.meet | apply App.ite | refine App.bind ?_ fun _ => ?_)) h
noncomputable def F.scan_New (K : Nat) (a0 : ByteArray) : Option (TScanx) := evFn Tryd.prog sg K 19 [.sc (.val (.string a0))] []
noncomputable def F.scan_New.B (a0 : ByteArray) : Option (TScanx) :=
    (some (a0, 0, 0, true))
theorem F.scan_New.eq K a0 : F.scan_New (K + 1) a0 = F.scan_New.B a0 := by kernel_rfl
noncomputable def V.scan_New (a0 : ByteArray) := lim fun v => F.scan_New (v 0) a0
theorem V.scan_New.of a0 {r} (h : F.scan_New.B a0 = some r) : V.scan_New a0 = some r :=
  App.to (App.step 0 (fun v => F.scan_New.eq (v 0) a0) (by unfold F.scan_New.B; repeat' first | apply App.guard | apply App.cond | exact App.lim | exact App.val | exact App.no | apply App.meet | apply App.ite | refine App.bind ?_ fun _ => ?_)) h
noncomputable def F.scan_Scan_Err (K : Nat) (a0 : TScanx) : Option (Int × TScanx) := evFn Tryd.prog sg K 22 [.sc (.ref 0 0)] [.cells 62 [.val (.string a0.1), .val (.int .i64 a0.2.1), .val (.int .i64 a0.2.2.1), .val (.bool a0.2.2.2)]]
noncomputable def F.scan_Scan_Err.B (a0 : TScanx) : Option (Int × TScanx) :=
    (bif (!a0.2.2.2) then (some (1, a0.1, a0.2.1, a0.2.2.1, a0.2.2.2)) else (some (a0.2.2.1, a0.1, a0.2.1, a0.2.2.1, a0.2.2.2)))
theorem F.scan_Scan_Err.eq K a0 : F.scan_Scan_Err (K + 1) a0 = F.scan_Scan_Err.B a0 := by kernel_rfl
noncomputable def V.scan_Scan_Err (a0 : TScanx) := lim fun v => F.scan_Scan_Err (v 0) a0
theorem V.scan_Scan_Err.of a0 {r} (h : F.scan_Scan_Err.B a0 = some r) : V.scan_Scan_Err a0 = some r :=
  App.to (App.step 0 (fun v => F.scan_Scan_Err.eq (v 0) a0) (by unfold F.scan_Scan_Err.B; repeat' first | apply App.guard | apply App.cond | exact App.lim | exact App.val | exact App.no | apply App.meet | apply App.ite | refine App.bind ?_ fun _ => ?_)) h
noncomputable def F.scan_Scan_take (K : Nat) (a0 : TScanx) (a1 : Int) : Option (ByteArray × TScanx) := evFn Tryd.prog sg K 62 [.sc (.ref 0 0), .sc (.val (.int .i64 a1))] [.cells 62 [.val (.string a0.1), .val (.int .i64 a0.2.1), .val (.int .i64 a0.2.2.1), .val (.bool a0.2.2.2)]]
noncomputable def F.scan_Scan_take.B (c0 : (TScanx) → Option (Int × TScanx)) (a0 : TScanx) (a1 : Int) : Option (ByteArray × TScanx) :=
    ((c0 (a0.1, a0.2.1, a0.2.2.1, a0.2.2.2)).bind fun t0 => (bif (t0.1 != 0) then (some ((⟨#[]⟩ : ByteArray), t0.2.1, t0.2.2.1, t0.2.2.2.1, t0.2.2.2.2)) else (bif (decide (a1 < 0)) then (some ((⟨#[]⟩ : ByteArray), t0.2.1, t0.2.2.1, 3, t0.2.2.2.2)) else (bif (decide (a1 > (w64 ((t0.2.1.size : Int) - t0.2.2.1)))) then (some ((⟨#[]⟩ : ByteArray), t0.2.1, t0.2.2.1, 3, t0.2.2.2.2)) else (guardK (decide (0 ≤ t0.2.2.1) && decide (t0.2.2.1 ≤ (w64 (t0.2.2.1 + a1))) && decide ((w64 (t0.2.2.1 + a1)) ≤ (t0.2.1.size : Int))) (some ((t0.2.1.extract t0.2.2.1.toNat (w64 (t0.2.2.1 + a1)).toNat), t0.2.1, (w64 (t0.2.2.1 + a1)), t0.2.2.2.1, t0.2.2.2.2)))))))
theorem F.scan_Scan_take.eq K a0 a1 : F.scan_Scan_take (K + 1) a0 a1 = F.scan_Scan_take.B (F.scan_Scan_Err K) a0 a1 := by kernel_rfl
noncomputable def V.scan_Scan_take (a0 : TScanx) (a1 : Int) := lim fun v => F.scan_Scan_take (v 0) a0 a1
theorem V.scan_Scan_take.of a0 a1 {r} (h : F.scan_Scan_take.B V.scan_Scan_Err a0 a1 = some r) : V.scan_Scan_take a0 a1 = some r :=
  App.to (App.step 0 (fun v => F.scan_Scan_take.eq (v 0) a0 a1) (by unfold F.scan_Scan_take.B; repeat' first | apply App.guard | apply App.cond | exact App.lim | exact App.val | exact App.no | apply App.meet | apply App.ite | refine App.bind ?_ fun _ => ?_)) h
noncomputable def F.scan_Scan_Byte (K : Nat) (a0 : TScanx) : Option (Int × TScanx) := evFn Tryd.prog sg K 42 [.sc (.ref 0 0)] [.cells 62 [.val (.string a0.1), .val (.int .i64 a0.2.1), .val (.int .i64 a0.2.2.1), .val (.bool a0.2.2.2)]]
noncomputable def F.scan_Scan_Byte.B (c0 : (TScanx) → (Int) → Option (ByteArray × TScanx)) (a0 : TScanx) : Option (Int × TScanx) :=
    ((c0 (a0.1, a0.2.1, a0.2.2.1, a0.2.2.2) 1).bind fun t0 => (bif (strEq t0.1 (⟨#[]⟩ : ByteArray)) then (some (0, t0.2.1, t0.2.2.1, t0.2.2.2.1, t0.2.2.2.2)) else (guardK (decide (0 < (t0.1.size : Int))) (some ((w64 (byteAt t0.1 0)), t0.2.1, t0.2.2.1, t0.2.2.2.1, t0.2.2.2.2)))))
theorem F.scan_Scan_Byte.eq K a0 : F.scan_Scan_Byte (K + 1) a0 = F.scan_Scan_Byte.B (F.scan_Scan_take K) a0 := by kernel_rfl
noncomputable def V.scan_Scan_Byte (a0 : TScanx) := lim fun v => F.scan_Scan_Byte (v 0) a0
theorem V.scan_Scan_Byte.of a0 {r} (h : F.scan_Scan_Byte.B V.scan_Scan_take a0 = some r) : V.scan_Scan_Byte a0 = some r :=
  App.to (App.step 0 (fun v => F.scan_Scan_Byte.eq (v 0) a0) (by unfold F.scan_Scan_Byte.B; repeat' first | apply App.guard | apply App.cond | exact App.lim | exact App.val | exact App.no | apply App.meet | apply App.ite | refine App.bind ?_ fun _ => ?_)) h
noncomputable def F.scan_Scan_fail (K : Nat) (a0 : TScanx) (a1 : Int) : Option (TScanx) := evFn Tryd.prog sg K 64 [.sc (.ref 0 0), .sc (.val (.int .i64 a1))] [.cells 62 [.val (.string a0.1), .val (.int .i64 a0.2.1), .val (.int .i64 a0.2.2.1), .val (.bool a0.2.2.2)]]
noncomputable def F.scan_Scan_fail.B (c0 : (TScanx) → Option (Int × TScanx)) (a0 : TScanx) (a1 : Int) : Option (TScanx) :=
    ((c0 (a0.1, a0.2.1, a0.2.2.1, a0.2.2.2)).bind fun t0 => (bif (t0.1 == 0) then (some (t0.2.1, t0.2.2.1, a1, t0.2.2.2.2)) else (some (t0.2.1, t0.2.2.1, t0.2.2.2.1, t0.2.2.2.2))))
theorem F.scan_Scan_fail.eq K a0 a1 : F.scan_Scan_fail (K + 1) a0 a1 = F.scan_Scan_fail.B (F.scan_Scan_Err K) a0 a1 := by kernel_rfl
noncomputable def V.scan_Scan_fail (a0 : TScanx) (a1 : Int) := lim fun v => F.scan_Scan_fail (v 0) a0 a1
theorem V.scan_Scan_fail.of a0 a1 {r} (h : F.scan_Scan_fail.B V.scan_Scan_Err a0 a1 = some r) : V.scan_Scan_fail a0 a1 = some r :=
  App.to (App.step 0 (fun v => F.scan_Scan_fail.eq (v 0) a0 a1) (by unfold F.scan_Scan_fail.B; repeat' first | apply App.guard | apply App.cond | exact App.lim | exact App.val | exact App.no | apply App.meet | apply App.ite | refine App.bind ?_ fun _ => ?_)) h
noncomputable def F.scan_Scan_Fail (K : Nat) (a0 : TScanx) (a1 : Int) : Option (TScanx) := evFn Tryd.prog sg K 45 [.sc (.ref 0 0), .sc (.val (.int .i64 a1))] [.cells 62 [.val (.string a0.1), .val (.int .i64 a0.2.1), .val (.int .i64 a0.2.2.1), .val (.bool a0.2.2.2)]]
noncomputable def F.scan_Scan_Fail.B (c0 : (TScanx) → (Int) → Option (TScanx)) (a0 : TScanx) (a1 : Int) : Option (TScanx) :=
    (bif (a1 != 0) then ((c0 (a0.1, a0.2.1, a0.2.2.1, a0.2.2.2) a1).bind fun t0 => (some (t0.1, t0.2.1, t0.2.2.1, t0.2.2.2))) else (some (a0.1, a0.2.1, a0.2.2.1, a0.2.2.2)))
theorem F.scan_Scan_Fail.eq K a0 a1 : F.scan_Scan_Fail (K + 1) a0 a1 = F.scan_Scan_Fail.B (F.scan_Scan_fail K) a0 a1 := by kernel_rfl
noncomputable def V.scan_Scan_Fail (a0 : TScanx) (a1 : Int) := lim fun v => F.scan_Scan_Fail (v 0) a0 a1
theorem V.scan_Scan_Fail.of a0 a1 {r} (h : F.scan_Scan_Fail.B V.scan_Scan_fail a0 a1 = some r) : V.scan_Scan_Fail a0 a1 = some r :=
  App.to (App.step 0 (fun v => F.scan_Scan_Fail.eq (v 0) a0 a1) (by unfold F.scan_Scan_Fail.B; repeat' first | apply App.guard | apply App.cond | exact App.lim | exact App.val | exact App.no | apply App.meet | apply App.ite | refine App.bind ?_ fun _ => ?_)) h
noncomputable def F.varint_Get (K : Nat) (a0 : ByteArray) : Option (Int × Int × Bool) := evFn Tryd.prog sg K 78 [.sc (.val (.string a0))] []
noncomputable def F.varint_Get.at (K : Nat) (p ns : List Nat) (s : St) : Option (Int × Int × Bool) := atFn Tryd.prog sg K 78 0 p ns s
noncomputable def F.varint_Get.in (K : Nat) (H : List Nat → List Nat → St → Option (Int × Int × Bool)) (p ns : List Nat) (s : St) : Option (Int × Int × Bool) := inFn Tryd.prog sg K 78 0 [] H p ns s
theorem F.varint_Get.in_eq K p ns s : F.varint_Get.at K p ns s = F.varint_Get.in K (F.varint_Get.at K) p ns s := atFn_eq (P := Tryd.prog) (sg := sg) (K := K) (f := 78) (m := 0) [] p ns s
theorem F.varint_Get.in_main K a0 : F.varint_Get (K + 1) a0 = F.varint_Get.in K (F.varint_Get.at K) [] [] ⟨slots [.sc (.val (.string a0))] 0, []⟩ := evFn_eq (P := Tryd.prog) (sg := sg) (K := K) (f := 78) (args := [.sc (.val (.string a0))]) (σ := []) [] (by kernel_rfl)
def F.varint_Get.l1010.st (a0 : ByteArray) (x0 : Int) (x1 : Int) : St := ⟨[(0, vS a0), (2, .one (.sc (.val (.int .u64 x0)))), (9, vI (if 10 < (a0.size : Int) then 10 else (a0.size : Int))), (10, vI x1)], []⟩
noncomputable def F.varint_Get.l1010 (K n0 : Nat) (a0 : ByteArray) (x0 : Int) (x1 : Int) := F.varint_Get.at K [1, 0, 1, 0] [n0] (F.varint_Get.l1010.st a0 x0 x1)
noncomputable def F.varint_Get.l1010.B (c0 : (ByteArray) → (Int) → (Int) → Option (Int × Int × Bool)) (a0 : ByteArray) (x0 : Int) (x1 : Int) : Option (Int × Int × Bool) :=
    (bif (decide (x1 < (if 10 < (a0.size : Int) then 10 else (a0.size : Int)))) then (guardK (decide (0 ≤ x1) && decide (x1 < (a0.size : Int))) (bif (x1 == 9) then (bif (decide ((IntKind.wrap .u64 (byteAt a0 x1)) > 1)) then (some (0, 0, false)) else (if (w64 (7 * x1)) < 0 then none else (bif (decide ((IntKind.wrap .u64 (byteAt a0 x1)) ≥ 128)) then (c0 a0 (IntKind.wrap .u64 ((BitVec.ofInt 64 x0 ||| BitVec.ofInt 64 (IntKind.wrap .u64 ((IntKind.wrap .u64 ((BitVec.ofInt 64 (IntKind.wrap .u64 (byteAt a0 x1)) &&& BitVec.ofInt 64 127).toNat : Int)) * 2 ^ (min (w64 (7 * x1)).toNat 64)))).toNat : Int)) (w64 (x1 + 1))) else (bif ((IntKind.wrap .u64 (byteAt a0 x1)) == 0) then (bif (decide (x1 > 0)) then (some (0, 0, false)) else (some ((IntKind.wrap .u64 ((BitVec.ofInt 64 x0 ||| BitVec.ofInt 64 (IntKind.wrap .u64 ((IntKind.wrap .u64 ((BitVec.ofInt 64 (IntKind.wrap .u64 (byteAt a0 x1)) &&& BitVec.ofInt 64 127).toNat : Int)) * 2 ^ (min (w64 (7 * x1)).toNat 64)))).toNat : Int)), (w64 (x1 + 1)), true))) else (some ((IntKind.wrap .u64 ((BitVec.ofInt 64 x0 ||| BitVec.ofInt 64 (IntKind.wrap .u64 ((IntKind.wrap .u64 ((BitVec.ofInt 64 (IntKind.wrap .u64 (byteAt a0 x1)) &&& BitVec.ofInt 64 127).toNat : Int)) * 2 ^ (min (w64 (7 * x1)).toNat 64)))).toNat : Int)), (w64 (x1 + 1)), true)))))) else (if (w64 (7 * x1)) < 0 then none else (bif (decide ((IntKind.wrap .u64 (byteAt a0 x1)) ≥ 128)) then (c0 a0 (IntKind.wrap .u64 ((BitVec.ofInt 64 x0 ||| BitVec.ofInt 64 (IntKind.wrap .u64 ((IntKind.wrap .u64 ((BitVec.ofInt 64 (IntKind.wrap .u64 (byteAt a0 x1)) &&& BitVec.ofInt 64 127).toNat : Int)) * 2 ^ (min (w64 (7 * x1)).toNat 64)))).toNat : Int)) (w64 (x1 + 1))) else (bif ((IntKind.wrap .u64 (byteAt a0 x1)) == 0) then (bif (decide (x1 > 0)) then (some (0, 0, false)) else (some ((IntKind.wrap .u64 ((BitVec.ofInt 64 x0 ||| BitVec.ofInt 64 (IntKind.wrap .u64 ((IntKind.wrap .u64 ((BitVec.ofInt 64 (IntKind.wrap .u64 (byteAt a0 x1)) &&& BitVec.ofInt 64 127).toNat : Int)) * 2 ^ (min (w64 (7 * x1)).toNat 64)))).toNat : Int)), (w64 (x1 + 1)), true))) else (some ((IntKind.wrap .u64 ((BitVec.ofInt 64 x0 ||| BitVec.ofInt 64 (IntKind.wrap .u64 ((IntKind.wrap .u64 ((BitVec.ofInt 64 (IntKind.wrap .u64 (byteAt a0 x1)) &&& BitVec.ofInt 64 127).toNat : Int)) * 2 ^ (min (w64 (7 * x1)).toNat 64)))).toNat : Int)), (w64 (x1 + 1)), true))))))) else (some (0, 0, false)))
theorem F.varint_Get.l1010.eq K n0 a0 x0 x1 : F.varint_Get.l1010 K (n0 + 1) a0 x0 x1 = F.varint_Get.l1010.B (F.varint_Get.l1010 K n0) a0 x0 x1 := (F.varint_Get.in_eq K [1, 0, 1, 0] [n0 + 1] (F.varint_Get.l1010.st a0 x0 x1)).trans ((show ∀ H, F.varint_Get.in K H [1, 0, 1, 0] [n0 + 1] (F.varint_Get.l1010.st a0 x0 x1) = F.varint_Get.l1010.B (fun a0 x0 x1 => H [1, 0, 1, 0] [n0] (F.varint_Get.l1010.st a0 x0 x1)) a0 x0 x1 from by intro H; kernel_rfl) (F.varint_Get.at K))
noncomputable def F.varint_Get.B (c0 : (ByteArray) → (Int) → (Int) → Option (Int × Int × Bool)) (a0 : ByteArray) : Option (Int × Int × Bool) :=
    (c0 a0 0 0)
theorem F.varint_Get.eq K a0 : F.varint_Get (K + 1) a0 = F.varint_Get.B (F.varint_Get.l1010 K K) a0 := (F.varint_Get.in_main K a0).trans ((show ∀ H, F.varint_Get.in K H [] [] ⟨slots [.sc (.val (.string a0))] 0, []⟩ = F.varint_Get.B (fun a0 x0 x1 => H [1, 0, 1, 0] [K] (F.varint_Get.l1010.st a0 x0 x1)) a0 from by intro H; kernel_rfl) (F.varint_Get.at K))
noncomputable def V.varint_Get.l1010 (a0 : ByteArray) (x0 : Int) (x1 : Int) := lim fun v => F.varint_Get.l1010 (v 0) (v 1) a0 x0 x1
noncomputable def V.varint_Get (a0 : ByteArray) := lim fun v => F.varint_Get (v 0) a0
theorem V.varint_Get.l1010.of a0 x0 x1 {r} (h : F.varint_Get.l1010.B V.varint_Get.l1010 a0 x0 x1 = some r) : V.varint_Get.l1010 a0 x0 x1 = some r :=
  App.to (App.step 1 (fun v => F.varint_Get.l1010.eq (v 0) (v 1) a0 x0 x1) (by unfold F.varint_Get.l1010.B; repeat' first | apply App.guard | apply App.cond | exact App.lim | exact App.val | exact App.no | apply App.meet | apply App.ite | refine App.bind ?_ fun _ => ?_)) h
theorem V.varint_Get.of a0 {r} (h : F.varint_Get.B V.varint_Get.l1010 a0 = some r) : V.varint_Get a0 = some r :=
  App.to (App.step 0 (fun v => F.varint_Get.eq (v 0) a0) (by unfold F.varint_Get.B; repeat' first | apply App.guard | apply App.cond | exact App.lim | exact (App.enter 1 App.lim) | exact App.val | exact App.no | apply App.meet | apply App.ite | refine App.bind ?_ fun _ => ?_)) h
noncomputable def F.varint_Zag (K : Nat) (a0 : Int) : Option (Int) := evFn Tryd.prog sg K 79 [.sc (.val (.int .u64 a0))] []
noncomputable def F.varint_Zag.B (a0 : Int) : Option (Int) :=
    (some (w64 ((BitVec.ofInt 64 (w64 (Int.fdiv a0 (2 ^ 1))) ^^^ BitVec.ofInt 64 (w64 (0 - (w64 (IntKind.wrap .u64 ((BitVec.ofInt 64 a0 &&& BitVec.ofInt 64 1).toNat : Int)))))).toNat : Int)))
theorem F.varint_Zag.eq K a0 : F.varint_Zag (K + 1) a0 = F.varint_Zag.B a0 := by kernel_rfl
noncomputable def V.varint_Zag (a0 : Int) := lim fun v => F.varint_Zag (v 0) a0
theorem V.varint_Zag.of a0 {r} (h : F.varint_Zag.B a0 = some r) : V.varint_Zag a0 = some r :=
  App.to (App.step 0 (fun v => F.varint_Zag.eq (v 0) a0) (by unfold F.varint_Zag.B; repeat' first | apply App.guard | apply App.cond | exact App.lim | exact App.val | exact App.no | apply App.meet | apply App.ite | refine App.bind ?_ fun _ => ?_)) h
noncomputable def F.varint_GetInt (K : Nat) (a0 : ByteArray) : Option (Int × Int × Bool) := evFn Tryd.prog sg K 63 [.sc (.val (.string a0))] []
noncomputable def F.varint_GetInt.B (c0 : (ByteArray) → Option (Int × Int × Bool)) (c1 : (Int) → Option (Int)) (a0 : ByteArray) : Option (Int × Int × Bool) :=
    ((c0 a0).bind fun t0 => ((c1 t0.1).bind fun t1 => (some (t1, t0.2.1, t0.2.2))))
theorem F.varint_GetInt.eq K a0 : F.varint_GetInt (K + 1) a0 = F.varint_GetInt.B (F.varint_Get K) (F.varint_Zag K) a0 := by kernel_rfl
noncomputable def V.varint_GetInt (a0 : ByteArray) := lim fun v => F.varint_GetInt (v 0) a0
theorem V.varint_GetInt.of a0 {r} (h : F.varint_GetInt.B V.varint_Get V.varint_Zag a0 = some r) : V.varint_GetInt a0 = some r :=
  App.to (App.step 0 (fun v => F.varint_GetInt.eq (v 0) a0) (by unfold F.varint_GetInt.B; repeat' first | apply App.guard | apply App.cond | exact App.lim | exact App.val | exact App.no | apply App.meet | apply App.ite | refine App.bind ?_ fun _ => ?_)) h
noncomputable def F.scan_Scan_Int (K : Nat) (a0 : TScanx) : Option (Int × TScanx) := evFn Tryd.prog sg K 43 [.sc (.ref 0 0)] [.cells 62 [.val (.string a0.1), .val (.int .i64 a0.2.1), .val (.int .i64 a0.2.2.1), .val (.bool a0.2.2.2)]]
noncomputable def F.scan_Scan_Int.B (c0 : (TScanx) → Option (Int × TScanx)) (c1 : (ByteArray) → Option (Int × Int × Bool)) (c2 : (TScanx) → (Int) → Option (TScanx)) (a0 : TScanx) : Option (Int × TScanx) :=
    ((c0 (a0.1, a0.2.1, a0.2.2.1, a0.2.2.2)).bind fun t0 => (bif (t0.1 != 0) then (some (0, t0.2.1, t0.2.2.1, t0.2.2.2.1, t0.2.2.2.2)) else (guardK (decide (0 ≤ t0.2.2.1) && decide (t0.2.2.1 ≤ (t0.2.1.size : Int)) && decide ((t0.2.1.size : Int) ≤ (t0.2.1.size : Int))) ((c1 (t0.2.1.extract t0.2.2.1.toNat (t0.2.1.size : Int).toNat)).bind fun t1 => (bif (!t1.2.2) then ((c2 (t0.2.1, t0.2.2.1, t0.2.2.2.1, t0.2.2.2.2) 3).bind fun t2 => (some (0, t2.1, t2.2.1, t2.2.2.1, t2.2.2.2))) else (some (t1.1, t0.2.1, (w64 (t0.2.2.1 + t1.2.1)), t0.2.2.2.1, t0.2.2.2.2)))))))
theorem F.scan_Scan_Int.eq K a0 : F.scan_Scan_Int (K + 1) a0 = F.scan_Scan_Int.B (F.scan_Scan_Err K) (F.varint_GetInt K) (F.scan_Scan_fail K) a0 := by kernel_rfl
noncomputable def V.scan_Scan_Int (a0 : TScanx) := lim fun v => F.scan_Scan_Int (v 0) a0
theorem V.scan_Scan_Int.of a0 {r} (h : F.scan_Scan_Int.B V.scan_Scan_Err V.varint_GetInt V.scan_Scan_fail a0 = some r) : V.scan_Scan_Int a0 = some r :=
  App.to (App.step 0 (fun v => F.scan_Scan_Int.eq (v 0) a0) (by unfold F.scan_Scan_Int.B; repeat' first | apply App.guard | apply App.cond | exact App.lim | exact App.val | exact App.no | apply App.meet | apply App.ite | refine App.bind ?_ fun _ => ?_)) h
noncomputable def F.scan_Scan_Num (K : Nat) (a0 : TScanx) (a1 : Int) : Option (Int × TScanx) := evFn Tryd.prog sg K 65 [.sc (.ref 0 0), .sc (.val (.int .i64 a1))] [.cells 62 [.val (.string a0.1), .val (.int .i64 a0.2.1), .val (.int .i64 a0.2.2.1), .val (.bool a0.2.2.2)]]
noncomputable def F.scan_Scan_Num.B (c0 : (TScanx) → Option (Int × TScanx)) (c1 : (ByteArray) → Option (Int × Int × Bool)) (c2 : (TScanx) → (Int) → Option (TScanx)) (a0 : TScanx) (a1 : Int) : Option (Int × TScanx) :=
    ((c0 (a0.1, a0.2.1, a0.2.2.1, a0.2.2.2)).bind fun t0 => (bif (t0.1 != 0) then (some (0, t0.2.1, t0.2.2.1, t0.2.2.2.1, t0.2.2.2.2)) else (guardK (decide (0 ≤ t0.2.2.1) && decide (t0.2.2.1 ≤ (t0.2.1.size : Int)) && decide ((t0.2.1.size : Int) ≤ (t0.2.1.size : Int))) ((c1 (t0.2.1.extract t0.2.2.1.toNat (t0.2.1.size : Int).toNat)).bind fun t1 => (bif (!t1.2.2) then ((c2 (t0.2.1, t0.2.2.1, t0.2.2.2.1, t0.2.2.2.2) 3).bind fun t2 => (some (0, t2.1, t2.2.1, t2.2.2.1, t2.2.2.2))) else (bif (decide (a1 < 0)) then ((c2 (t0.2.1, t0.2.2.1, t0.2.2.2.1, t0.2.2.2.2) 5).bind fun t3 => (some (0, t3.1, t3.2.1, t3.2.2.1, t3.2.2.2))) else (bif (decide (t1.1 > (IntKind.wrap .u64 a1))) then ((c2 (t0.2.1, t0.2.2.1, t0.2.2.2.1, t0.2.2.2.2) 5).bind fun t4 => (some (0, t4.1, t4.2.1, t4.2.2.1, t4.2.2.2))) else (some ((w64 t1.1), t0.2.1, (w64 (t0.2.2.1 + t1.2.1)), t0.2.2.2.1, t0.2.2.2.2)))))))))
theorem F.scan_Scan_Num.eq K a0 a1 : F.scan_Scan_Num (K + 1) a0 a1 = F.scan_Scan_Num.B (F.scan_Scan_Err K) (F.varint_Get K) (F.scan_Scan_fail K) a0 a1 := by kernel_rfl
noncomputable def V.scan_Scan_Num (a0 : TScanx) (a1 : Int) := lim fun v => F.scan_Scan_Num (v 0) a0 a1
theorem V.scan_Scan_Num.of a0 a1 {r} (h : F.scan_Scan_Num.B V.scan_Scan_Err V.varint_Get V.scan_Scan_fail a0 a1 = some r) : V.scan_Scan_Num a0 a1 = some r :=
  App.to (App.step 0 (fun v => F.scan_Scan_Num.eq (v 0) a0 a1) (by unfold F.scan_Scan_Num.B; repeat' first | apply App.guard | apply App.cond | exact App.lim | exact App.val | exact App.no | apply App.meet | apply App.ite | refine App.bind ?_ fun _ => ?_)) h
noncomputable def F.scan_Scan_Text (K : Nat) (a0 : TScanx) (a1 : Int) : Option (ByteArray × TScanx) := evFn Tryd.prog sg K 44 [.sc (.ref 0 0), .sc (.val (.int .i64 a1))] [.cells 62 [.val (.string a0.1), .val (.int .i64 a0.2.1), .val (.int .i64 a0.2.2.1), .val (.bool a0.2.2.2)]]
noncomputable def F.scan_Scan_Text.B (c0 : (TScanx) → (Int) → Option (Int × TScanx)) (c1 : (TScanx) → (Int) → Option (ByteArray × TScanx)) (a0 : TScanx) (a1 : Int) : Option (ByteArray × TScanx) :=
    ((c0 (a0.1, a0.2.1, a0.2.2.1, a0.2.2.2) a1).bind fun t0 => ((c1 (t0.2.1, t0.2.2.1, t0.2.2.2.1, t0.2.2.2.2) t0.1).bind fun t1 => (some (t1.1, t1.2.1, t1.2.2.1, t1.2.2.2.1, t1.2.2.2.2))))
theorem F.scan_Scan_Text.eq K a0 a1 : F.scan_Scan_Text (K + 1) a0 a1 = F.scan_Scan_Text.B (F.scan_Scan_Num K) (F.scan_Scan_take K) a0 a1 := by kernel_rfl
noncomputable def V.scan_Scan_Text (a0 : TScanx) (a1 : Int) := lim fun v => F.scan_Scan_Text (v 0) a0 a1
theorem V.scan_Scan_Text.of a0 a1 {r} (h : F.scan_Scan_Text.B V.scan_Scan_Num V.scan_Scan_take a0 a1 = some r) : V.scan_Scan_Text a0 a1 = some r :=
  App.to (App.step 0 (fun v => F.scan_Scan_Text.eq (v 0) a0 a1) (by unfold F.scan_Scan_Text.B; repeat' first | apply App.guard | apply App.cond | exact App.lim | exact App.val | exact App.no | apply App.meet | apply App.ite | refine App.bind ?_ fun _ => ?_)) h
noncomputable def F.value_Read (K : Nat) (a0 : TScanx) : Option (TValue × TScanx) := evFn Tryd.prog sg K 20 [.sc (.ref 0 0)] [.cells 62 [.val (.string a0.1), .val (.int .i64 a0.2.1), .val (.int .i64 a0.2.2.1), .val (.bool a0.2.2.2)]]
noncomputable def F.value_Read.B (c0 : (TScanx) → Option (Int × TScanx)) (c1 : (TScanx) → Option (Int × TScanx)) (c2 : (TValue) → Option (Int)) (c3 : (TScanx) → (Int) → Option (TScanx)) (c4 : (TScanx) → Option (Int × TScanx)) (c5 : (TScanx) → (Int) → Option (ByteArray × TScanx)) (a0 : TScanx) : Option (TValue × TScanx) :=
    ((c0 (a0.1, a0.2.1, a0.2.2.1, a0.2.2.2)).bind fun t0 => (bif (t0.1 == 1) then ((c0 (t0.2.1, t0.2.2.1, t0.2.2.2.1, t0.2.2.2.2)).bind fun t1 => ((c1 (t1.2.1, t1.2.2.1, t1.2.2.2.1, t1.2.2.2.2)).bind fun t2 => (bif (t2.1 != 0) then (some ((0, 0, (⟨#[]⟩ : ByteArray)), t2.2.1, t2.2.2.1, t2.2.2.2.1, t2.2.2.2.2)) else ((c2 (t0.1, t1.1, (⟨#[]⟩ : ByteArray))).bind fun t3 => (bif (t3 != 0) then ((c3 (t2.2.1, t2.2.2.1, t2.2.2.2.1, t2.2.2.2.2) 3).bind fun t4 => (some ((0, 0, (⟨#[]⟩ : ByteArray)), t4.1, t4.2.1, t4.2.2.1, t4.2.2.2))) else (some ((t0.1, t1.1, (⟨#[]⟩ : ByteArray)), t2.2.1, t2.2.2.1, t2.2.2.2.1, t2.2.2.2.2))))))) else (bif (t0.1 == 2) then ((c4 (t0.2.1, t0.2.2.1, t0.2.2.2.1, t0.2.2.2.2)).bind fun t5 => ((c1 (t5.2.1, t5.2.2.1, t5.2.2.2.1, t5.2.2.2.2)).bind fun t6 => (bif (t6.1 != 0) then (some ((0, 0, (⟨#[]⟩ : ByteArray)), t6.2.1, t6.2.2.1, t6.2.2.2.1, t6.2.2.2.2)) else ((c2 (t0.1, t5.1, (⟨#[]⟩ : ByteArray))).bind fun t7 => (bif (t7 != 0) then ((c3 (t6.2.1, t6.2.2.1, t6.2.2.2.1, t6.2.2.2.2) 3).bind fun t8 => (some ((0, 0, (⟨#[]⟩ : ByteArray)), t8.1, t8.2.1, t8.2.2.1, t8.2.2.2))) else (some ((t0.1, t5.1, (⟨#[]⟩ : ByteArray)), t6.2.1, t6.2.2.1, t6.2.2.2.1, t6.2.2.2.2))))))) else (bif (t0.1 == 3) then ((c5 (t0.2.1, t0.2.2.1, t0.2.2.2.1, t0.2.2.2.2) 64).bind fun t9 => ((c1 (t9.2.1, t9.2.2.1, t9.2.2.2.1, t9.2.2.2.2)).bind fun t10 => (bif (t10.1 != 0) then (some ((0, 0, (⟨#[]⟩ : ByteArray)), t10.2.1, t10.2.2.1, t10.2.2.2.1, t10.2.2.2.2)) else ((c2 (t0.1, 0, t9.1)).bind fun t11 => (bif (t11 != 0) then ((c3 (t10.2.1, t10.2.2.1, t10.2.2.2.1, t10.2.2.2.2) 3).bind fun t12 => (some ((0, 0, (⟨#[]⟩ : ByteArray)), t12.1, t12.2.1, t12.2.2.1, t12.2.2.2))) else (some ((t0.1, 0, t9.1), t10.2.1, t10.2.2.1, t10.2.2.2.1, t10.2.2.2.2))))))) else ((c1 (t0.2.1, t0.2.2.1, t0.2.2.2.1, t0.2.2.2.2)).bind fun t13 => (bif (t13.1 != 0) then (some ((0, 0, (⟨#[]⟩ : ByteArray)), t13.2.1, t13.2.2.1, t13.2.2.2.1, t13.2.2.2.2)) else ((c2 (t0.1, 0, (⟨#[]⟩ : ByteArray))).bind fun t14 => (bif (t14 != 0) then ((c3 (t13.2.1, t13.2.2.1, t13.2.2.2.1, t13.2.2.2.2) 3).bind fun t15 => (some ((0, 0, (⟨#[]⟩ : ByteArray)), t15.1, t15.2.1, t15.2.2.1, t15.2.2.2))) else (some ((t0.1, 0, (⟨#[]⟩ : ByteArray)), t13.2.1, t13.2.2.1, t13.2.2.2.1, t13.2.2.2.2))))))))))
theorem F.value_Read.eq K a0 : F.value_Read (K + 1) a0 = F.value_Read.B (F.scan_Scan_Byte K) (F.scan_Scan_Err K) (F.value_Check K) (F.scan_Scan_Fail K) (F.scan_Scan_Int K) (F.scan_Scan_Text K) a0 := by kernel_rfl
noncomputable def V.value_Read (a0 : TScanx) := lim fun v => F.value_Read (v 0) a0
theorem V.value_Read.of a0 {r} (h : F.value_Read.B V.scan_Scan_Byte V.scan_Scan_Err V.value_Check V.scan_Scan_Fail V.scan_Scan_Int V.scan_Scan_Text a0 = some r) : V.value_Read a0 = some r :=
  App.to (App.step 0 (fun v => F.value_Read.eq (v 0) a0) (by unfold F.value_Read.B; repeat' first | apply App.guard | apply App.cond | exact App.lim | exact App.val | exact App.no | apply App.meet | apply App.ite | refine App.bind ?_ fun _ => ?_)) h
noncomputable def F.scan_Scan_End (K : Nat) (a0 : TScanx) : Option (Int × TScanx) := evFn Tryd.prog sg K 40 [.sc (.ref 0 0)] [.cells 62 [.val (.string a0.1), .val (.int .i64 a0.2.1), .val (.int .i64 a0.2.2.1), .val (.bool a0.2.2.2)]]
noncomputable def F.scan_Scan_End.B (c0 : (TScanx) → Option (Int × TScanx)) (a0 : TScanx) : Option (Int × TScanx) :=
    ((c0 (a0.1, a0.2.1, a0.2.2.1, a0.2.2.2)).bind fun t0 => (bif (t0.1 == 0) then (meet (bif (decide (t0.2.2.1 < (t0.2.1.size : Int))) then ((c0 (t0.2.1, t0.2.2.1, 3, t0.2.2.2.2)).bind fun t1 => (some (t1.1, t1.2.1, t1.2.2.1, t1.2.2.2.1, t1.2.2.2.2))) else ((c0 (t0.2.1, t0.2.2.1, t0.2.2.2.1, t0.2.2.2.2)).bind fun t2 => (some (t2.1, t2.2.1, t2.2.2.1, t2.2.2.2.1, t2.2.2.2.2)))) (bif (decide (t0.2.2.1 < (t0.2.1.size : Int))) then ((c0 (t0.2.1, t0.2.2.1, 3, t0.2.2.2.2)).bind fun t3 => (some (t3.1, t3.2.1, t3.2.2.1, t3.2.2.2.1, t3.2.2.2.2))) else ((c0 (t0.2.1, t0.2.2.1, t0.2.2.2.1, t0.2.2.2.2)).bind fun t4 => (some (t4.1, t4.2.1, t4.2.2.1, t4.2.2.2.1, t4.2.2.2.2))))) else ((c0 (t0.2.1, t0.2.2.1, t0.2.2.2.1, t0.2.2.2.2)).bind fun t5 => (some (t5.1, t5.2.1, t5.2.2.1, t5.2.2.2.1, t5.2.2.2.2)))))
theorem F.scan_Scan_End.eq K a0 : F.scan_Scan_End (K + 1) a0 = F.scan_Scan_End.B (F.scan_Scan_Err K) a0 := by kernel_rfl
noncomputable def V.scan_Scan_End (a0 : TScanx) := lim fun v => F.scan_Scan_End (v 0) a0
theorem V.scan_Scan_End.of a0 {r} (h : F.scan_Scan_End.B V.scan_Scan_Err a0 = some r) : V.scan_Scan_End a0 = some r :=
  App.to (App.step 0 (fun v => F.scan_Scan_End.eq (v 0) a0) (by unfold F.scan_Scan_End.B; repeat' first | apply App.guard | apply App.cond | exact App.lim | exact App.val | exact App.no | apply App.meet | apply App.ite | refine App.bind ?_ fun _ => ?_)) h
noncomputable def F.value_Take (K : Nat) (a0 : ByteArray) : Option (TValue × Int) := evFn Tryd.prog sg K 17 [.sc (.val (.string a0))] []
noncomputable def F.value_Take.B (c0 : (ByteArray) → Option (TScanx)) (c1 : (TScanx) → Option (TValue × TScanx)) (c2 : (TScanx) → Option (Int × TScanx)) (a0 : ByteArray) : Option (TValue × Int) :=
    ((c0 a0).bind fun t0 => ((c1 (t0.1, t0.2.1, t0.2.2.1, t0.2.2.2)).bind fun t1 => ((c2 (t1.2.1, t1.2.2.1, t1.2.2.2.1, t1.2.2.2.2)).bind fun t2 => (bif (t2.1 != 0) then (some ((0, 0, (⟨#[]⟩ : ByteArray)), t2.1)) else (some ((t1.1.1, t1.1.2.1, t1.1.2.2), 0))))))
theorem F.value_Take.eq K a0 : F.value_Take (K + 1) a0 = F.value_Take.B (F.scan_New K) (F.value_Read K) (F.scan_Scan_End K) a0 := by kernel_rfl
noncomputable def V.value_Take (a0 : ByteArray) := lim fun v => F.value_Take (v 0) a0
theorem V.value_Take.of a0 {r} (h : F.value_Take.B V.scan_New V.value_Read V.scan_Scan_End a0 = some r) : V.value_Take a0 = some r :=
  App.to (App.step 0 (fun v => F.value_Take.eq (v 0) a0) (by unfold F.value_Take.B; repeat' first | apply App.guard | apply App.cond | exact App.lim | exact App.val | exact App.no | apply App.meet | apply App.ite | refine App.bind ?_ fun _ => ?_)) h
noncomputable def F.pleachref04_fix (K : Nat) (a0 : TScan) (a1 : Int) : Option (TScan × ByteArray) := evFn Tryd.prog sg K 66 [.agg [.val (.string a0.1), .val (.int .i64 a0.2.1), .val (.int .i64 a0.2.2)], .sc (.val (.int .i64 a1))] []
noncomputable def F.pleachref04_fix.B (a0 : TScan) (a1 : Int) : Option (TScan × ByteArray) :=
    (bif (a0.2.2 != 0) then (some ((a0.1, a0.2.1, a0.2.2), (⟨#[]⟩ : ByteArray))) else (bif (decide (a1 < 0)) then (some ((a0.1, a0.2.1, 3), (⟨#[]⟩ : ByteArray))) else (bif (decide (a1 > (w64 ((a0.1.size : Int) - a0.2.1)))) then (some ((a0.1, a0.2.1, 3), (⟨#[]⟩ : ByteArray))) else (guardK (decide (0 ≤ a0.2.1) && decide (a0.2.1 ≤ (w64 (a0.2.1 + a1))) && decide ((w64 (a0.2.1 + a1)) ≤ (a0.1.size : Int))) (some ((a0.1, (w64 (a0.2.1 + a1)), a0.2.2), (a0.1.extract a0.2.1.toNat (w64 (a0.2.1 + a1)).toNat)))))))
theorem F.pleachref04_fix.eq K a0 a1 : F.pleachref04_fix (K + 1) a0 a1 = F.pleachref04_fix.B a0 a1 := by kernel_rfl
noncomputable def V.pleachref04_fix (a0 : TScan) (a1 : Int) := lim fun v => F.pleachref04_fix (v 0) a0 a1
theorem V.pleachref04_fix.of a0 a1 {r} (h : F.pleachref04_fix.B a0 a1 = some r) : V.pleachref04_fix a0 a1 = some r :=
  App.to (App.step 0 (fun v => F.pleachref04_fix.eq (v 0) a0 a1) (by unfold F.pleachref04_fix.B; repeat' first | apply App.guard | apply App.cond | exact App.lim | exact App.val | exact App.no | apply App.meet | apply App.ite | refine App.bind ?_ fun _ => ?_)) h
noncomputable def F.pleachref04_Byte (K : Nat) (a0 : TScan) : Option (TScan × Int) := evFn Tryd.prog sg K 46 [.agg [.val (.string a0.1), .val (.int .i64 a0.2.1), .val (.int .i64 a0.2.2)]] []
noncomputable def F.pleachref04_Byte.B (c0 : (TScan) → (Int) → Option (TScan × ByteArray)) (a0 : TScan) : Option (TScan × Int) :=
    ((c0 (a0.1, a0.2.1, a0.2.2) 1).bind fun t0 => (bif (t0.1.2.2 != 0) then (some ((t0.1.1, t0.1.2.1, t0.1.2.2), 0)) else (guardK (decide (0 < (t0.2.size : Int))) (some ((t0.1.1, t0.1.2.1, t0.1.2.2), (w64 (byteAt t0.2 0)))))))
theorem F.pleachref04_Byte.eq K a0 : F.pleachref04_Byte (K + 1) a0 = F.pleachref04_Byte.B (F.pleachref04_fix K) a0 := by kernel_rfl
noncomputable def V.pleachref04_Byte (a0 : TScan) := lim fun v => F.pleachref04_Byte (v 0) a0
theorem V.pleachref04_Byte.of a0 {r} (h : F.pleachref04_Byte.B V.pleachref04_fix a0 = some r) : V.pleachref04_Byte a0 = some r :=
  App.to (App.step 0 (fun v => F.pleachref04_Byte.eq (v 0) a0) (by unfold F.pleachref04_Byte.B; repeat' first | apply App.guard | apply App.cond | exact App.lim | exact App.val | exact App.no | apply App.meet | apply App.ite | refine App.bind ?_ fun _ => ?_)) h
noncomputable def F.pleachref01_Get (K : Nat) (a0 : ByteArray) : Option (Int × Int × Bool) := evFn Tryd.prog sg K 67 [.sc (.val (.string a0))] []
noncomputable def F.pleachref01_Get.at (K : Nat) (p ns : List Nat) (s : St) : Option (Int × Int × Bool) := atFn Tryd.prog sg K 67 0 p ns s
noncomputable def F.pleachref01_Get.in (K : Nat) (H : List Nat → List Nat → St → Option (Int × Int × Bool)) (p ns : List Nat) (s : St) : Option (Int × Int × Bool) := inFn Tryd.prog sg K 67 0 [] H p ns s
theorem F.pleachref01_Get.in_eq K p ns s : F.pleachref01_Get.at K p ns s = F.pleachref01_Get.in K (F.pleachref01_Get.at K) p ns s := atFn_eq (P := Tryd.prog) (sg := sg) (K := K) (f := 67) (m := 0) [] p ns s
theorem F.pleachref01_Get.in_main K a0 : F.pleachref01_Get (K + 1) a0 = F.pleachref01_Get.in K (F.pleachref01_Get.at K) [] [] ⟨slots [.sc (.val (.string a0))] 0, []⟩ := evFn_eq (P := Tryd.prog) (sg := sg) (K := K) (f := 67) (args := [.sc (.val (.string a0))]) (σ := []) [] (by kernel_rfl)
def F.pleachref01_Get.l1100.st (a0 : ByteArray) (x0 : Int) : St := ⟨[(0, vS a0), (5, vI x0)], []⟩
noncomputable def F.pleachref01_Get.l1100 (K n0 : Nat) (a0 : ByteArray) (x0 : Int) := F.pleachref01_Get.at K [1, 1, 0, 0] [n0] (F.pleachref01_Get.l1100.st a0 x0)
def F.pleachref01_Get.l11111010.st (a0 : ByteArray) (x0 : Int) (x1 : Int) (x2 : Int) : St := ⟨[(0, vS a0), (5, vI x0), (6, .one (.sc (.val (.int .u64 x1)))), (7, vI x2)], []⟩
noncomputable def F.pleachref01_Get.l11111010 (K n0 : Nat) (a0 : ByteArray) (x0 : Int) (x1 : Int) (x2 : Int) := F.pleachref01_Get.at K [1, 1, 1, 1, 1, 0, 1, 0] [n0] (F.pleachref01_Get.l11111010.st a0 x0 x1 x2)
noncomputable def F.pleachref01_Get.l1100.B (c0 : (ByteArray) → (Int) → Option (Int × Int × Bool)) (c1 : (ByteArray) → (Int) → (Int) → (Int) → Option (Int × Int × Bool)) (a0 : ByteArray) (x0 : Int) : Option (Int × Int × Bool) :=
    (bif (decide (x0 < (a0.size : Int))) then (guardK (decide (0 ≤ x0) && decide (x0 < (a0.size : Int))) (bif (decide ((byteAt a0 x0) ≥ 128)) then (c0 a0 (w64 (x0 + 1))) else (bif (decide (x0 ≥ (a0.size : Int))) then (some (0, 0, false)) else (bif (decide (x0 > 9)) then (some (0, 0, false)) else (c1 a0 x0 0 x0))))) else (bif (decide (x0 ≥ (a0.size : Int))) then (some (0, 0, false)) else (bif (decide (x0 > 9)) then (some (0, 0, false)) else (c1 a0 x0 0 x0))))
theorem F.pleachref01_Get.l1100.eq K n0 a0 x0 : F.pleachref01_Get.l1100 K (n0 + 1) a0 x0 = F.pleachref01_Get.l1100.B (F.pleachref01_Get.l1100 K n0) (F.pleachref01_Get.l11111010 K K) a0 x0 := (F.pleachref01_Get.in_eq K [1, 1, 0, 0] [n0 + 1] (F.pleachref01_Get.l1100.st a0 x0)).trans ((show ∀ H, F.pleachref01_Get.in K H [1, 1, 0, 0] [n0 + 1] (F.pleachref01_Get.l1100.st a0 x0) = F.pleachref01_Get.l1100.B (fun a0 x0 => H [1, 1, 0, 0] [n0] (F.pleachref01_Get.l1100.st a0 x0)) (fun a0 x0 x1 x2 => H [1, 1, 1, 1, 1, 0, 1, 0] [K] (F.pleachref01_Get.l11111010.st a0 x0 x1 x2)) a0 x0 from by intro H; kernel_rfl) (F.pleachref01_Get.at K))
noncomputable def F.pleachref01_Get.l11111010.B (c0 : (ByteArray) → (Int) → (Int) → (Int) → Option (Int × Int × Bool)) (c1 : (Int) → Option (ByteArray)) (a0 : ByteArray) (x0 : Int) (x1 : Int) (x2 : Int) : Option (Int × Int × Bool) :=
    (bif (decide (x2 ≥ 0)) then (guardK (decide (0 ≤ x2) && decide (x2 < (a0.size : Int))) (c0 a0 x0 (IntKind.wrap .u64 ((IntKind.wrap .u64 (x1 * 128)) + (Int.tmod (IntKind.wrap .u64 (byteAt a0 x2)) 128))) (w64 (x2 - 1)))) else (guardK (decide (0 ≤ (w64 (x0 + 1))) && decide ((w64 (x0 + 1)) ≤ (a0.size : Int))) ((c1 x1).bind fun t0 => (bif (!strEq t0 (a0.extract 0 (w64 (x0 + 1)).toNat)) then (some (0, 0, false)) else (some (x1, (w64 (x0 + 1)), true))))))
theorem F.pleachref01_Get.l11111010.eq K n0 a0 x0 x1 x2 : F.pleachref01_Get.l11111010 K (n0 + 1) a0 x0 x1 x2 = F.pleachref01_Get.l11111010.B (F.pleachref01_Get.l11111010 K n0) (F.pleachref01_Put K) a0 x0 x1 x2 := (F.pleachref01_Get.in_eq K [1, 1, 1, 1, 1, 0, 1, 0] [n0 + 1] (F.pleachref01_Get.l11111010.st a0 x0 x1 x2)).trans ((show ∀ H, F.pleachref01_Get.in K H [1, 1, 1, 1, 1, 0, 1, 0] [n0 + 1] (F.pleachref01_Get.l11111010.st a0 x0 x1 x2) = F.pleachref01_Get.l11111010.B (fun a0 x0 x1 x2 => H [1, 1, 1, 1, 1, 0, 1, 0] [n0] (F.pleachref01_Get.l11111010.st a0 x0 x1 x2)) (F.pleachref01_Put K) a0 x0 x1 x2 from by intro H; kernel_rfl) (F.pleachref01_Get.at K))
noncomputable def F.pleachref01_Get.B (c0 : (ByteArray) → (Int) → Option (Int × Int × Bool)) (a0 : ByteArray) : Option (Int × Int × Bool) :=
    (c0 a0 0)
theorem F.pleachref01_Get.eq K a0 : F.pleachref01_Get (K + 1) a0 = F.pleachref01_Get.B (F.pleachref01_Get.l1100 K K) a0 := (F.pleachref01_Get.in_main K a0).trans ((show ∀ H, F.pleachref01_Get.in K H [] [] ⟨slots [.sc (.val (.string a0))] 0, []⟩ = F.pleachref01_Get.B (fun a0 x0 => H [1, 1, 0, 0] [K] (F.pleachref01_Get.l1100.st a0 x0)) a0 from by intro H; kernel_rfl) (F.pleachref01_Get.at K))
noncomputable def V.pleachref01_Get.l1100 (a0 : ByteArray) (x0 : Int) := lim fun v => F.pleachref01_Get.l1100 (v 0) (v 1) a0 x0
noncomputable def V.pleachref01_Get.l11111010 (a0 : ByteArray) (x0 : Int) (x1 : Int) (x2 : Int) := lim fun v => F.pleachref01_Get.l11111010 (v 0) (v 1) a0 x0 x1 x2
noncomputable def V.pleachref01_Get (a0 : ByteArray) := lim fun v => F.pleachref01_Get (v 0) a0
theorem V.pleachref01_Get.l1100.of a0 x0 {r} (h : F.pleachref01_Get.l1100.B V.pleachref01_Get.l1100 V.pleachref01_Get.l11111010 a0 x0 = some r) : V.pleachref01_Get.l1100 a0 x0 = some r :=
  App.to (App.step 1 (fun v => F.pleachref01_Get.l1100.eq (v 0) (v 1) a0 x0) (by unfold F.pleachref01_Get.l1100.B; repeat' first | apply App.guard | apply App.cond | exact App.lim | exact (App.enter 1 App.lim) | exact App.val | exact App.no | apply App.meet | apply App.ite | refine App.bind ?_ fun _ => ?_)) h
theorem V.pleachref01_Get.l11111010.of a0 x0 x1 x2 {r} (h : F.pleachref01_Get.l11111010.B V.pleachref01_Get.l11111010 V.pleachref01_Put a0 x0 x1 x2 = some r) : V.pleachref01_Get.l11111010 a0 x0 x1 x2 = some r :=
  App.to (App.step 1 (fun v => F.pleachref01_Get.l11111010.eq (v 0) (v 1) a0 x0 x1 x2) (by unfold F.pleachref01_Get.l11111010.B; repeat' first | apply App.guard | apply App.cond | exact App.lim | exact App.val | exact App.no | apply App.meet | apply App.ite | refine App.bind ?_ fun _ => ?_)) h
theorem V.pleachref01_Get.of a0 {r} (h : F.pleachref01_Get.B V.pleachref01_Get.l1100 a0 = some r) : V.pleachref01_Get a0 = some r :=
  App.to (App.step 0 (fun v => F.pleachref01_Get.eq (v 0) a0) (by unfold F.pleachref01_Get.B; repeat' first | apply App.guard | apply App.cond | exact App.lim | exact (App.enter 1 App.lim) | exact App.val | exact App.no | apply App.meet | apply App.ite | refine App.bind ?_ fun _ => ?_)) h
noncomputable def F.pleachref01_Zag (K : Nat) (a0 : Int) : Option (Int) := evFn Tryd.prog sg K 68 [.sc (.val (.int .u64 a0))] []
noncomputable def F.pleachref01_Zag.B (a0 : Int) : Option (Int) :=
    (bif ((Int.tmod a0 2) == 0) then (some (w64 (IntKind.wrap .u64 (Int.tdiv a0 2)))) else (some (w64 ((-1) - (w64 (IntKind.wrap .u64 (Int.tdiv a0 2)))))))
theorem F.pleachref01_Zag.eq K a0 : F.pleachref01_Zag (K + 1) a0 = F.pleachref01_Zag.B a0 := by kernel_rfl
noncomputable def V.pleachref01_Zag (a0 : Int) := lim fun v => F.pleachref01_Zag (v 0) a0
theorem V.pleachref01_Zag.of a0 {r} (h : F.pleachref01_Zag.B a0 = some r) : V.pleachref01_Zag a0 = some r :=
  App.to (App.step 0 (fun v => F.pleachref01_Zag.eq (v 0) a0) (by unfold F.pleachref01_Zag.B; repeat' first | apply App.guard | apply App.cond | exact App.lim | exact App.val | exact App.no | apply App.meet | apply App.ite | refine App.bind ?_ fun _ => ?_)) h
noncomputable def F.pleachref04_Int (K : Nat) (a0 : TScan) : Option (TScan × Int) := evFn Tryd.prog sg K 47 [.agg [.val (.string a0.1), .val (.int .i64 a0.2.1), .val (.int .i64 a0.2.2)]] []
noncomputable def F.pleachref04_Int.B (c0 : (ByteArray) → Option (Int × Int × Bool)) (c1 : (Int) → Option (Int)) (a0 : TScan) : Option (TScan × Int) :=
    (bif (a0.2.2 != 0) then (some ((a0.1, a0.2.1, a0.2.2), 0)) else (guardK (decide (0 ≤ a0.2.1) && decide (a0.2.1 ≤ (a0.1.size : Int)) && decide ((a0.1.size : Int) ≤ (a0.1.size : Int))) ((c0 (a0.1.extract a0.2.1.toNat (a0.1.size : Int).toNat)).bind fun t0 => (bif (!t0.2.2) then (some ((a0.1, a0.2.1, 3), 0)) else ((c1 t0.1).bind fun t1 => (some ((a0.1, (w64 (a0.2.1 + t0.2.1)), a0.2.2), t1)))))))
theorem F.pleachref04_Int.eq K a0 : F.pleachref04_Int (K + 1) a0 = F.pleachref04_Int.B (F.pleachref01_Get K) (F.pleachref01_Zag K) a0 := by kernel_rfl
noncomputable def V.pleachref04_Int (a0 : TScan) := lim fun v => F.pleachref04_Int (v 0) a0
theorem V.pleachref04_Int.of a0 {r} (h : F.pleachref04_Int.B V.pleachref01_Get V.pleachref01_Zag a0 = some r) : V.pleachref04_Int a0 = some r :=
  App.to (App.step 0 (fun v => F.pleachref04_Int.eq (v 0) a0) (by unfold F.pleachref04_Int.B; repeat' first | apply App.guard | apply App.cond | exact App.lim | exact App.val | exact App.no | apply App.meet | apply App.ite | refine App.bind ?_ fun _ => ?_)) h
noncomputable def F.pleachref04_Num (K : Nat) (a0 : TScan) (a1 : Int) : Option (TScan × Int) := evFn Tryd.prog sg K 69 [.agg [.val (.string a0.1), .val (.int .i64 a0.2.1), .val (.int .i64 a0.2.2)], .sc (.val (.int .i64 a1))] []
noncomputable def F.pleachref04_Num.B (c0 : (ByteArray) → Option (Int × Int × Bool)) (a0 : TScan) (a1 : Int) : Option (TScan × Int) :=
    (bif (a0.2.2 != 0) then (some ((a0.1, a0.2.1, a0.2.2), 0)) else (guardK (decide (0 ≤ a0.2.1) && decide (a0.2.1 ≤ (a0.1.size : Int)) && decide ((a0.1.size : Int) ≤ (a0.1.size : Int))) ((c0 (a0.1.extract a0.2.1.toNat (a0.1.size : Int).toNat)).bind fun t0 => (bif (!t0.2.2) then (some ((a0.1, a0.2.1, 3), 0)) else (bif (decide (a1 < 0)) then (some ((a0.1, a0.2.1, 5), 0)) else (bif (decide (t0.1 > (IntKind.wrap .u64 a1))) then (some ((a0.1, a0.2.1, 5), 0)) else (some ((a0.1, (w64 (a0.2.1 + t0.2.1)), a0.2.2), (w64 t0.1)))))))))
theorem F.pleachref04_Num.eq K a0 a1 : F.pleachref04_Num (K + 1) a0 a1 = F.pleachref04_Num.B (F.pleachref01_Get K) a0 a1 := by kernel_rfl
noncomputable def V.pleachref04_Num (a0 : TScan) (a1 : Int) := lim fun v => F.pleachref04_Num (v 0) a0 a1
theorem V.pleachref04_Num.of a0 a1 {r} (h : F.pleachref04_Num.B V.pleachref01_Get a0 a1 = some r) : V.pleachref04_Num a0 a1 = some r :=
  App.to (App.step 0 (fun v => F.pleachref04_Num.eq (v 0) a0 a1) (by unfold F.pleachref04_Num.B; repeat' first | apply App.guard | apply App.cond | exact App.lim | exact App.val | exact App.no | apply App.meet | apply App.ite | refine App.bind ?_ fun _ => ?_)) h
noncomputable def F.pleachref04_Text (K : Nat) (a0 : TScan) (a1 : Int) : Option (TScan × ByteArray) := evFn Tryd.prog sg K 48 [.agg [.val (.string a0.1), .val (.int .i64 a0.2.1), .val (.int .i64 a0.2.2)], .sc (.val (.int .i64 a1))] []
noncomputable def F.pleachref04_Text.B (c0 : (TScan) → (Int) → Option (TScan × Int)) (c1 : (TScan) → (Int) → Option (TScan × ByteArray)) (a0 : TScan) (a1 : Int) : Option (TScan × ByteArray) :=
    ((c0 (a0.1, a0.2.1, a0.2.2) a1).bind fun t0 => (bif (t0.1.2.2 != 0) then (some ((t0.1.1, t0.1.2.1, t0.1.2.2), (⟨#[]⟩ : ByteArray))) else ((c1 (t0.1.1, t0.1.2.1, t0.1.2.2) t0.2).bind fun t1 => (some ((t1.1.1, t1.1.2.1, t1.1.2.2), t1.2)))))
theorem F.pleachref04_Text.eq K a0 a1 : F.pleachref04_Text (K + 1) a0 a1 = F.pleachref04_Text.B (F.pleachref04_Num K) (F.pleachref04_fix K) a0 a1 := by kernel_rfl
noncomputable def V.pleachref04_Text (a0 : TScan) (a1 : Int) := lim fun v => F.pleachref04_Text (v 0) a0 a1
theorem V.pleachref04_Text.of a0 a1 {r} (h : F.pleachref04_Text.B V.pleachref04_Num V.pleachref04_fix a0 a1 = some r) : V.pleachref04_Text a0 a1 = some r :=
  App.to (App.step 0 (fun v => F.pleachref04_Text.eq (v 0) a0 a1) (by unfold F.pleachref04_Text.B; repeat' first | apply App.guard | apply App.cond | exact App.lim | exact App.val | exact App.no | apply App.meet | apply App.ite | refine App.bind ?_ fun _ => ?_)) h
noncomputable def F.pleachref06_Read (K : Nat) (a0 : TScan) : Option (TScan × TValue) := evFn Tryd.prog sg K 21 [.agg [.val (.string a0.1), .val (.int .i64 a0.2.1), .val (.int .i64 a0.2.2)]] []
noncomputable def F.pleachref06_Read.B (c0 : (TScan) → Option (TScan × Int)) (c1 : (TScan) → Option (TScan × Int)) (c2 : (TScan) → (Int) → Option (TScan × ByteArray)) (c3 : (TValue) → Option (Bool)) (a0 : TScan) : Option (TScan × TValue) :=
    ((c0 (a0.1, a0.2.1, a0.2.2)).bind fun t0 => (bif (t0.2 == 1) then ((c0 (t0.1.1, t0.1.2.1, t0.1.2.2)).bind fun t1 => (bif (t0.2 == 2) then ((c1 (t1.1.1, t1.1.2.1, t1.1.2.2)).bind fun t2 => (bif (t0.2 == 3) then ((c2 (t2.1.1, t2.1.2.1, t2.1.2.2) 64).bind fun t3 => (bif (t3.1.2.2 == 0) then ((c3 (t0.2, t2.2, t3.2)).bind fun t4 => (bif (!t4) then (some ((t3.1.1, t3.1.2.1, 3), 0, 0, (⟨#[]⟩ : ByteArray))) else (bif (t3.1.2.2 != 0) then (some ((t3.1.1, t3.1.2.1, t3.1.2.2), 0, 0, (⟨#[]⟩ : ByteArray))) else (some ((t3.1.1, t3.1.2.1, t3.1.2.2), t0.2, t2.2, t3.2))))) else (bif (t3.1.2.2 != 0) then (some ((t3.1.1, t3.1.2.1, t3.1.2.2), 0, 0, (⟨#[]⟩ : ByteArray))) else (some ((t3.1.1, t3.1.2.1, t3.1.2.2), t0.2, t2.2, t3.2))))) else (bif (t2.1.2.2 == 0) then ((c3 (t0.2, t2.2, (⟨#[]⟩ : ByteArray))).bind fun t5 => (bif (!t5) then (some ((t2.1.1, t2.1.2.1, 3), 0, 0, (⟨#[]⟩ : ByteArray))) else (bif (t2.1.2.2 != 0) then (some ((t2.1.1, t2.1.2.1, t2.1.2.2), 0, 0, (⟨#[]⟩ : ByteArray))) else (some ((t2.1.1, t2.1.2.1, t2.1.2.2), t0.2, t2.2, (⟨#[]⟩ : ByteArray)))))) else (bif (t2.1.2.2 != 0) then (some ((t2.1.1, t2.1.2.1, t2.1.2.2), 0, 0, (⟨#[]⟩ : ByteArray))) else (some ((t2.1.1, t2.1.2.1, t2.1.2.2), t0.2, t2.2, (⟨#[]⟩ : ByteArray))))))) else (bif (t0.2 == 3) then ((c2 (t1.1.1, t1.1.2.1, t1.1.2.2) 64).bind fun t6 => (bif (t6.1.2.2 == 0) then ((c3 (t0.2, t1.2, t6.2)).bind fun t7 => (bif (!t7) then (some ((t6.1.1, t6.1.2.1, 3), 0, 0, (⟨#[]⟩ : ByteArray))) else (bif (t6.1.2.2 != 0) then (some ((t6.1.1, t6.1.2.1, t6.1.2.2), 0, 0, (⟨#[]⟩ : ByteArray))) else (some ((t6.1.1, t6.1.2.1, t6.1.2.2), t0.2, t1.2, t6.2))))) else (bif (t6.1.2.2 != 0) then (some ((t6.1.1, t6.1.2.1, t6.1.2.2), 0, 0, (⟨#[]⟩ : ByteArray))) else (some ((t6.1.1, t6.1.2.1, t6.1.2.2), t0.2, t1.2, t6.2))))) else (bif (t1.1.2.2 == 0) then ((c3 (t0.2, t1.2, (⟨#[]⟩ : ByteArray))).bind fun t8 => (bif (!t8) then (some ((t1.1.1, t1.1.2.1, 3), 0, 0, (⟨#[]⟩ : ByteArray))) else (bif (t1.1.2.2 != 0) then (some ((t1.1.1, t1.1.2.1, t1.1.2.2), 0, 0, (⟨#[]⟩ : ByteArray))) else (some ((t1.1.1, t1.1.2.1, t1.1.2.2), t0.2, t1.2, (⟨#[]⟩ : ByteArray)))))) else (bif (t1.1.2.2 != 0) then (some ((t1.1.1, t1.1.2.1, t1.1.2.2), 0, 0, (⟨#[]⟩ : ByteArray))) else (some ((t1.1.1, t1.1.2.1, t1.1.2.2), t0.2, t1.2, (⟨#[]⟩ : ByteArray)))))))) else (bif (t0.2 == 2) then ((c1 (t0.1.1, t0.1.2.1, t0.1.2.2)).bind fun t9 => (bif (t0.2 == 3) then ((c2 (t9.1.1, t9.1.2.1, t9.1.2.2) 64).bind fun t10 => (bif (t10.1.2.2 == 0) then ((c3 (t0.2, t9.2, t10.2)).bind fun t11 => (bif (!t11) then (some ((t10.1.1, t10.1.2.1, 3), 0, 0, (⟨#[]⟩ : ByteArray))) else (bif (t10.1.2.2 != 0) then (some ((t10.1.1, t10.1.2.1, t10.1.2.2), 0, 0, (⟨#[]⟩ : ByteArray))) else (some ((t10.1.1, t10.1.2.1, t10.1.2.2), t0.2, t9.2, t10.2))))) else (bif (t10.1.2.2 != 0) then (some ((t10.1.1, t10.1.2.1, t10.1.2.2), 0, 0, (⟨#[]⟩ : ByteArray))) else (some ((t10.1.1, t10.1.2.1, t10.1.2.2), t0.2, t9.2, t10.2))))) else (bif (t9.1.2.2 == 0) then ((c3 (t0.2, t9.2, (⟨#[]⟩ : ByteArray))).bind fun t12 => (bif (!t12) then (some ((t9.1.1, t9.1.2.1, 3), 0, 0, (⟨#[]⟩ : ByteArray))) else (bif (t9.1.2.2 != 0) then (some ((t9.1.1, t9.1.2.1, t9.1.2.2), 0, 0, (⟨#[]⟩ : ByteArray))) else (some ((t9.1.1, t9.1.2.1, t9.1.2.2), t0.2, t9.2, (⟨#[]⟩ : ByteArray)))))) else (bif (t9.1.2.2 != 0) then (some ((t9.1.1, t9.1.2.1, t9.1.2.2), 0, 0, (⟨#[]⟩ : ByteArray))) else (some ((t9.1.1, t9.1.2.1, t9.1.2.2), t0.2, t9.2, (⟨#[]⟩ : ByteArray))))))) else (bif (t0.2 == 3) then ((c2 (t0.1.1, t0.1.2.1, t0.1.2.2) 64).bind fun t13 => (bif (t13.1.2.2 == 0) then ((c3 (t0.2, 0, t13.2)).bind fun t14 => (bif (!t14) then (some ((t13.1.1, t13.1.2.1, 3), 0, 0, (⟨#[]⟩ : ByteArray))) else (bif (t13.1.2.2 != 0) then (some ((t13.1.1, t13.1.2.1, t13.1.2.2), 0, 0, (⟨#[]⟩ : ByteArray))) else (some ((t13.1.1, t13.1.2.1, t13.1.2.2), t0.2, 0, t13.2))))) else (bif (t13.1.2.2 != 0) then (some ((t13.1.1, t13.1.2.1, t13.1.2.2), 0, 0, (⟨#[]⟩ : ByteArray))) else (some ((t13.1.1, t13.1.2.1, t13.1.2.2), t0.2, 0, t13.2))))) else (bif (t0.1.2.2 == 0) then ((c3 (t0.2, 0, (⟨#[]⟩ : ByteArray))).bind fun t15 => (bif (!t15) then (some ((t0.1.1, t0.1.2.1, 3), 0, 0, (⟨#[]⟩ : ByteArray))) else (bif (t0.1.2.2 != 0) then (some ((t0.1.1, t0.1.2.1, t0.1.2.2), 0, 0, (⟨#[]⟩ : ByteArray))) else (some ((t0.1.1, t0.1.2.1, t0.1.2.2), t0.2, 0, (⟨#[]⟩ : ByteArray)))))) else (bif (t0.1.2.2 != 0) then (some ((t0.1.1, t0.1.2.1, t0.1.2.2), 0, 0, (⟨#[]⟩ : ByteArray))) else (some ((t0.1.1, t0.1.2.1, t0.1.2.2), t0.2, 0, (⟨#[]⟩ : ByteArray)))))))))
theorem F.pleachref06_Read.eq K a0 : F.pleachref06_Read (K + 1) a0 = F.pleachref06_Read.B (F.pleachref04_Byte K) (F.pleachref04_Int K) (F.pleachref04_Text K) (F.pleachref06_Is K) a0 := by kernel_rfl
noncomputable def V.pleachref06_Read (a0 : TScan) := lim fun v => F.pleachref06_Read (v 0) a0
theorem V.pleachref06_Read.of a0 {r} (h : F.pleachref06_Read.B V.pleachref04_Byte V.pleachref04_Int V.pleachref04_Text V.pleachref06_Is a0 = some r) : V.pleachref06_Read a0 = some r :=
  App.to (App.step 0 (fun v => F.pleachref06_Read.eq (v 0) a0) (by unfold F.pleachref06_Read.B; repeat' first | apply App.guard | apply App.cond | exact App.lim | exact App.val | exact App.no | apply App.meet | apply App.ite | refine App.bind ?_ fun _ => ?_)) h
noncomputable def F.pleachref04_End (K : Nat) (a0 : TScan) : Option (TScan) := evFn Tryd.prog sg K 41 [.agg [.val (.string a0.1), .val (.int .i64 a0.2.1), .val (.int .i64 a0.2.2)]] []
noncomputable def F.pleachref04_End.B (a0 : TScan) : Option (TScan) :=
    (bif (a0.2.2 == 0) then (bif (decide (a0.2.1 < (a0.1.size : Int))) then (some (a0.1, a0.2.1, 3)) else (some (a0.1, a0.2.1, a0.2.2))) else (some (a0.1, a0.2.1, a0.2.2)))
theorem F.pleachref04_End.eq K a0 : F.pleachref04_End (K + 1) a0 = F.pleachref04_End.B a0 := by kernel_rfl
noncomputable def V.pleachref04_End (a0 : TScan) := lim fun v => F.pleachref04_End (v 0) a0
theorem V.pleachref04_End.of a0 {r} (h : F.pleachref04_End.B a0 = some r) : V.pleachref04_End a0 = some r :=
  App.to (App.step 0 (fun v => F.pleachref04_End.eq (v 0) a0) (by unfold F.pleachref04_End.B; repeat' first | apply App.guard | apply App.cond | exact App.lim | exact App.val | exact App.no | apply App.meet | apply App.ite | refine App.bind ?_ fun _ => ?_)) h
noncomputable def F.pleachref06_Take (K : Nat) (a0 : ByteArray) : Option (TValue × Int) := evFn Tryd.prog sg K 18 [.sc (.val (.string a0))] []
noncomputable def F.pleachref06_Take.B (c0 : (TScan) → Option (TScan × TValue)) (c1 : (TScan) → Option (TScan)) (a0 : ByteArray) : Option (TValue × Int) :=
    ((c0 (a0, 0, 0)).bind fun t0 => ((c1 (t0.1.1, t0.1.2.1, t0.1.2.2)).bind fun t1 => (bif (t1.2.2 != 0) then (some ((0, 0, (⟨#[]⟩ : ByteArray)), t1.2.2)) else (some ((t0.2.1, t0.2.2.1, t0.2.2.2), 0)))))
theorem F.pleachref06_Take.eq K a0 : F.pleachref06_Take (K + 1) a0 = F.pleachref06_Take.B (F.pleachref06_Read K) (F.pleachref04_End K) a0 := by kernel_rfl
noncomputable def V.pleachref06_Take (a0 : ByteArray) := lim fun v => F.pleachref06_Take (v 0) a0
theorem V.pleachref06_Take.of a0 {r} (h : F.pleachref06_Take.B V.pleachref06_Read V.pleachref04_End a0 = some r) : V.pleachref06_Take a0 = some r :=
  App.to (App.step 0 (fun v => F.pleachref06_Take.eq (v 0) a0) (by unfold F.pleachref06_Take.B; repeat' first | apply App.guard | apply App.cond | exact App.lim | exact App.val | exact App.no | apply App.meet | apply App.ite | refine App.bind ?_ fun _ => ?_)) h
noncomputable def F.scan_Scan_At (K : Nat) (a0 : TScanx) : Option (Int × TScanx) := evFn Tryd.prog sg K 23 [.sc (.ref 0 0)] [.cells 62 [.val (.string a0.1), .val (.int .i64 a0.2.1), .val (.int .i64 a0.2.2.1), .val (.bool a0.2.2.2)]]
noncomputable def F.scan_Scan_At.B (a0 : TScanx) : Option (Int × TScanx) :=
    (some (a0.2.1, a0.1, a0.2.1, a0.2.2.1, a0.2.2.2))
theorem F.scan_Scan_At.eq K a0 : F.scan_Scan_At (K + 1) a0 = F.scan_Scan_At.B a0 := by kernel_rfl
noncomputable def V.scan_Scan_At (a0 : TScanx) := lim fun v => F.scan_Scan_At (v 0) a0
theorem V.scan_Scan_At.of a0 {r} (h : F.scan_Scan_At.B a0 = some r) : V.scan_Scan_At a0 = some r :=
  App.to (App.step 0 (fun v => F.scan_Scan_At.eq (v 0) a0) (by unfold F.scan_Scan_At.B; repeat' first | apply App.guard | apply App.cond | exact App.lim | exact App.val | exact App.no | apply App.meet | apply App.ite | refine App.bind ?_ fun _ => ?_)) h
noncomputable def F.pleachlaw06_ValueTakes (K : Nat) (a0 : ByteArray) : Option (Bool) := evFn Tryd.prog sg K 5 [.sc (.val (.string a0))] []
noncomputable def F.pleachlaw06_ValueTakes.B (c0 : Option (Bool)) (c1 : (ByteArray) → Option (TValue × Int)) (c2 : (ByteArray) → Option (TValue × Int)) (c3 : (ByteArray) → Option (TScanx)) (c4 : (TScanx) → Option (TValue × TScanx)) (c5 : (TScan) → Option (TScan × TValue)) (c6 : (TScanx) → Option (Int × TScanx)) (c7 : (TScanx) → Option (Int × TScanx)) (a0 : ByteArray) : Option (Bool) :=
    (bif (decide ((a0.size : Int) > 1000)) then ((c0).bind fun t0 => (some t0)) else ((c1 a0).bind fun t1 => ((c2 a0).bind fun t2 => ((c3 a0).bind fun t3 => ((c4 (t3.1, t3.2.1, t3.2.2.1, t3.2.2.2)).bind fun t4 => ((c5 (a0, 0, 0)).bind fun t5 => (bif ((t1.1.1 == t2.1.1) && ((t1.1.2.1 == t2.1.2.1) && ((strEq t1.1.2.2 t2.1.2.2) && true))) then (bif (t1.2 == t2.2) then (bif ((t4.1.1 == t5.2.1) && ((t4.1.2.1 == t5.2.2.1) && ((strEq t4.1.2.2 t5.2.2.2) && true))) then ((c6 (t4.2.1, t4.2.2.1, t4.2.2.2.1, t4.2.2.2.2)).bind fun t6 => (bif (t6.1 == t5.1.2.2) then ((c7 (t6.2.1, t6.2.2.1, t6.2.2.2.1, t6.2.2.2.2)).bind fun t7 => (bif (t7.1 == t5.1.2.1) then ((c0).bind fun t8 => (some t8)) else (some false))) else (some false))) else (some false)) else (some false)) else (some false))))))))
theorem F.pleachlaw06_ValueTakes.eq K a0 : F.pleachlaw06_ValueTakes (K + 1) a0 = F.pleachlaw06_ValueTakes.B (F.pleachlaw06_awake K) (F.value_Take K) (F.pleachref06_Take K) (F.scan_New K) (F.value_Read K) (F.pleachref06_Read K) (F.scan_Scan_Err K) (F.scan_Scan_At K) a0 := by kernel_rfl
noncomputable def V.pleachlaw06_ValueTakes (a0 : ByteArray) := lim fun v => F.pleachlaw06_ValueTakes (v 0) a0
theorem V.pleachlaw06_ValueTakes.of a0 {r} (h : F.pleachlaw06_ValueTakes.B V.pleachlaw06_awake V.value_Take V.pleachref06_Take V.scan_New V.value_Read V.pleachref06_Read V.scan_Scan_Err V.scan_Scan_At a0 = some r) : V.pleachlaw06_ValueTakes a0 = some r :=
  App.to (App.step 0 (fun v => F.pleachlaw06_ValueTakes.eq (v 0) a0) (by unfold F.pleachlaw06_ValueTakes.B; repeat' first | apply App.guard | apply App.cond | exact App.lim | exact App.val | exact App.no | apply App.meet | apply App.ite | refine App.bind ?_ fun _ => ?_)) h
end Go.Proofs.YthnhkaaodghpgaaDoor.AE
end
section
set_option linter.unusedVariables false
set_option linter.unusedSimpArgs false
namespace Go.Proofs.YthnhkaaodghpgaaDoor.AE
open Go

theorem w64_id {x : Int} (h0 : -9223372036854775808 ≤ x) (h1 : x ≤ 9223372036854775807) : w64 x = x := by
  show IntKind.i64.wrap x = x
  simp [IntKind.wrap, IntKind.bits, IntKind.signed]
  omega
theorem u64_id {x : Int} (h0 : 0 ≤ x) (h1 : x ≤ 18446744073709551615) : IntKind.wrap .u64 x = x := by
  have : IntKind.u64.wrap x = x % 18446744073709551616 := by simp [IntKind.wrap, IntKind.bits, IntKind.signed]
  rw [this]; omega
theorem u64_mod (x : Int) : IntKind.wrap .u64 x = x % 18446744073709551616 := by simp [IntKind.wrap, IntKind.bits, IntKind.signed]
theorem u8_mod (x : Int) : IntKind.wrap .u8 x = x % 256 := by simp [IntKind.wrap, IntKind.bits, IntKind.signed]
theorem w64_up {i n : Nat} (h : i < n) (hn : n ≤ 140737488351232) : w64 ((i : Int) + 1) = ((i + 1 : Nat) : Int) := by rw [w64_id (by omega) (by omega)]; omega
theorem guard_of {α : Type} {g : Bool} {a : Option α} (h : g = true) : guardK g a = a := by rw [h]; rfl
theorem guard_dec {α : Type} {p : Prop} [Decidable p] {a : Option α} (h : p) : guardK (decide p) a = a := guard_of (decide_eq_true h)
/-- Inside a row. -/
theorem guard_in {α : Type} {i n : Nat} {a : Option α} (h : i < n) : guardK (decide (0 ≤ (i : Int)) && decide ((i : Int) < (n : Int))) a = a := guard_of (by simp [h])
theorem if_in {α : Type} {i n : Nat} {a b : α} (h : i < n) : (bif decide ((i : Int) < (n : Int)) then a else b) = a := by simp [h]
theorem if_out {α : Type} {i n : Nat} {a b : α} (h : n ≤ i) : (bif decide ((i : Int) < (n : Int)) then a else b) = b := by simp [Nat.not_lt.2 h]
theorem if_yes {α : Type} {p : Prop} [Decidable p] {a b : α} (h : p) : (bif decide p then a else b) = a := by simp [h]
theorem if_no {α : Type} {p : Prop} [Decidable p] {a b : α} (h : ¬ p) : (bif decide p then a else b) = b := by simp [h]
theorem nat_cast (i : Nat) : ((i : Nat) : Int).toNat = i := rfl
theorem meet_self {α : Type} (a : Option α) : meet a a = a := by unfold meet; simp
theorem data_len (s : ByteArray) : s.data.toList.length = s.size := by rw [Array.length_toList]; rfl
theorem toList_size (s : ByteArray) : s.toList.length = s.size := by rw [ByteArray.toList_eq]; exact data_len s
theorem toList_nil {s : ByteArray} : s.toList = [] ↔ s.size = 0 := by
  rw [← toList_size, List.length_eq_zero_iff]
theorem bytes_ext {s t : ByteArray} (h : s.toList = t.toList) : s = t := by
  rw [ByteArray.toList_eq, ByteArray.toList_eq] at h
  have : s.data = t.data := by rwa [← Array.toList_inj]
  cases s; cases t; simp_all
theorem strEq_iff {s t : ByteArray} : strEq s t = true ↔ s = t := by
  unfold strEq
  rw [beq_iff_eq]
  exact ⟨bytes_ext, fun h => by rw [h]⟩
theorem strEq_self (s : ByteArray) : strEq s s = true := strEq_iff.2 rfl
theorem strEq_no {s t : ByteArray} (h : s ≠ t) : strEq s t = false := by
  cases hb : strEq s t with
  | false => rfl
  | true => exact absurd (strEq_iff.1 hb) h
/-! ### The order of texts -/

theorem size_zero {s : ByteArray} (h : s.size = 0) : s = (⟨#[]⟩ : ByteArray) := by
  apply bytes_ext
  rw [toList_nil.2 h]
  exact (toList_nil.2 rfl).symm
theorem strEq_nil (s : ByteArray) : strEq s (⟨#[]⟩ : ByteArray) = (s.size == 0) := by
  rw [Bool.eq_iff_iff, strEq_iff]
  simp only [beq_iff_eq]
  exact ⟨fun h => by rw [h]; rfl, size_zero⟩
theorem strOfNums_size (xs : List Int) : (bytesOf xs).size = xs.length := by unfold bytesOf; simp [ByteArray.size]
theorem strOfNums_append (xs ys : List Int) : bytesOf (xs ++ ys) = bytesOf xs ++ bytesOf ys := by
  apply ByteArray.ext
  simp [bytesOf]
theorem bt_data (s : ByteArray) (i : Nat) (h : i < s.size) : byteAt s (i : Int) = ((s.data.toList[i]'(by rw [Array.length_toList]; exact h)).toNat : Int) := by
  show (((s.data.toList.getD (i : Int).toNat 0).toNat : Nat) : Int) = _
  rw [nat_cast, List.getD_eq_getElem?_getD, List.getElem?_eq_getElem (by rw [data_len]; exact h)]
  rfl
theorem extract_size (s : ByteArray) (a b : Nat) : (s.extract a b).size ≤ s.size := by
  rw [ByteArray.size_extract]; omega

theorem rd_get {e : Sh} {l : List (den e)} {i : Nat} (h : i < l.length) : rd e l i = l[i] := by
  simp [rd, List.getD_eq_getElem?_getD, List.getElem?_eq_getElem h]
end Go.Proofs.YthnhkaaodghpgaaDoor.AE
end
section
set_option linter.unusedVariables false
set_option linter.unusedSimpArgs false
namespace Go.Proofs.YthnhkaaodghpgaaDoor.AE
open Go

def valueB (v : TValue) : Bool := (v.1 == 1 && (v.2.1 == 0 || v.2.1 == 1) && v.2.2.size == 0) || (v.1 == 2 && v.2.2.size == 0) || (v.1 == 3 && v.2.1 == 0 && decide (v.2.2.size ≤ 64))
theorem value_Check_ok (v : TValue) : V.value_Check v = some (if valueB v then 0 else 2) := by
  refine V.value_Check.of _ ?_
  obtain ⟨a, b, s⟩ := v
  unfold F.value_Check.B valueB
  simp only [strEq_nil]
  by_cases a1 : a = 1
  · subst a1
    by_cases b0 : b = 0 <;> by_cases b1 : b = 1 <;> by_cases s0 : s.size = 0 <;> simp [Bool.cond_eq_ite, b0, b1, s0]
  · by_cases a2 : a = 2
    · subst a2
      by_cases s0 : s.size = 0 <;> simp [Bool.cond_eq_ite, s0]
    · by_cases a3 : a = 3
      · subst a3
        by_cases b0 : b = 0 <;> by_cases s0 : s.size ≤ 64 <;> simp [Bool.cond_eq_ite, b0, s0] <;> omega
      · simp [Bool.cond_eq_ite, a1, a2, a3]
theorem refVIs_ok (v : TValue) : V.pleachref06_Is v = some (valueB v) := by
  refine V.pleachref06_Is.of _ ?_
  obtain ⟨a, b, s⟩ := v
  unfold F.pleachref06_Is.B valueB
  simp only [strEq_nil]
  by_cases a1 : a = 1
  · subst a1
    by_cases s0 : s.size = 0 <;> by_cases b0 : b ≥ 0 <;> by_cases b1 : b ≤ 1 <;> simp [Bool.cond_eq_ite, b0, b1, s0] <;> omega
  · by_cases a2 : a = 2
    · subst a2
      by_cases s0 : s.size = 0 <;> simp [Bool.cond_eq_ite, s0]
    · by_cases a3 : a = 3
      · subst a3
        by_cases b0 : b = 0 <;> by_cases s0 : s.size ≤ 64 <;> simp [Bool.cond_eq_ite, b0, s0] <;> omega
      · simp [Bool.cond_eq_ite, a1, a2, a3]

/-! ### Rows that rise -/

end Go.Proofs.YthnhkaaodghpgaaDoor.AE
end
section
set_option linter.unusedVariables false
set_option linter.unusedSimpArgs false
namespace Go.Proofs.YthnhkaaodghpgaaDoor.AE
open Go

/-- A number's bytes, seven bits a byte, 128 more in all but the last. -/
def vput : Nat → Nat → List Int
  | 0, _ => []
  | f + 1, n => if n < 128 then [(n : Int)] else ((n % 128 + 128 : Nat) : Int) :: vput f (n / 128)
theorem vput_len : ∀ f n : Nat, (vput f n).length ≤ f
  | 0, _ => by simp [vput]
  | f + 1, n => by
    unfold vput
    split
    · simp
    · have := vput_len f (n / 128)
      simp
      omega
theorem vput_pos (f n : Nat) : 0 < (vput (f + 1) n).length := by
  unfold vput
  split <;> simp
def numB (n : Nat) : ByteArray := bytesOf (vput 10 n)
theorem numB_size (n : Nat) : (numB n).size ≤ 10 := by unfold numB; rw [strOfNums_size]; exact vput_len 10 n
theorem or128 (c : Int) (h0 : 0 ≤ c) (h1 : c < 256) : (((BitVec.ofInt 8 c ||| BitVec.ofInt 8 128).toNat : Nat) : Int) = c % 128 + 128 := by
  obtain ⟨n, rfl⟩ := Int.eq_ofNat_of_zero_le h0
  have key : ∀ m : Fin 256, (BitVec.ofInt 8 (m.1 : Int) ||| BitVec.ofInt 8 128).toNat = m.1 % 128 + 128 := by decide +kernel
  have := key ⟨n, by omega⟩
  simp only at this
  rw [this]
  omega
theorem repl_len {α : Type} (a : α) : ∀ n, (repl n a).length = n
  | 0 => rfl
  | n + 1 => by simp [repl, repl_len a n]
theorem take_set_succ {α : Type} (l : List α) (i : Nat) (x : α) (h : i < l.length) : (l.set i x).take (i + 1) = l.take i ++ [x] := by
  rw [List.take_add_one, List.take_set, List.set_eq_of_length_le (by rw [List.length_take]; omega)]
  simp [h]
theorem varint_Put_l (a : Int) : ∀ (f n i : Nat) (arr : List Int), n < 128 ^ (f + 1) → i + f + 1 ≤ 10 → arr.length = 10 → V.varint_Put.l11100 a (n : Int) (i : Int) arr = some (bytesOf (arr.take i ++ vput (f + 1) n))
  | f, n, i, arr, hn, hi, ha => by
    refine V.varint_Put.l11100.of _ _ _ _ ?_
    unfold F.varint_Put.l11100.B
    have e7 : Int.fdiv (n : Int) (2 ^ 7) = ((n / 128 : Nat) : Int) := by rw [Int.fdiv_eq_ediv_of_nonneg _ (by decide)]; rfl
    rw [e7, w64_id (x := (i : Int) + 1) (by omega) (by omega)]
    simp only [u8_mod]
    by_cases h : n < 128
    · rw [if_no (by omega), guard_of (by simp [ha]; omega), guard_of (by simp [ha]; omega)]
      have e1 : (n : Int) % 256 = n := by omega
      have e2 : ((i : Int) + 1).toNat = i + 1 := rfl
      rw [e1, e2, nat_cast, List.drop_zero, take_set_succ _ _ _ (by omega)]
      have e3 : vput (f + 1) n = [(n : Int)] := by unfold vput; rw [if_pos h]
      rw [e3]
    · cases f with
      | zero => simp at hn; omega
      | succ f =>
        rw [if_yes (by omega), guard_of (by simp [ha]; omega), or128 _ (by omega) (by omega), nat_cast]
        have ih := varint_Put_l a f (n / 128) (i + 1) (arr.set i (((n : Int) % 256 % 128 + 128) % 256)) (by rw [Nat.pow_succ] at hn; exact Nat.div_lt_of_lt_mul (by omega)) (by omega) (by simp [ha])
        rw [show ((i : Int) + 1) = ((i + 1 : Nat) : Int) by omega, ih, take_set_succ _ _ _ (by omega)]
        have e3 : vput (f + 1 + 1) n = ((n % 128 + 128 : Nat) : Int) :: vput (f + 1) (n / 128) := by rw [vput, if_neg h]
        rw [e3, List.append_assoc]
        have e4 : ((n : Int) % 256 % 128 + 128) % 256 = ((n % 128 + 128 : Nat) : Int) := by omega
        rw [e4]
        rfl
theorem varint_Put_ok {n : Nat} (h1 : n < 18446744073709551616) : V.varint_Put (n : Int) = some (numB n) := by
  refine V.varint_Put.of _ ?_
  unfold F.varint_Put.B
  have := varint_Put_l (n : Int) 9 n 0 (repl 10 0) (by omega) (by omega) (repl_len _ _)
  rw [show (0 : Int) = ((0 : Nat) : Int) from rfl] at this ⊢
  rw [this]
  rfl
theorem Put_eq {n : Int} (h0 : 0 ≤ n) (h1 : n < 18446744073709551616) : V.varint_Put n = some (numB n.toNat) := by
  obtain ⟨m, rfl⟩ := Int.eq_ofNat_of_zero_le h0
  exact varint_Put_ok (by omega)

/-- The digits to the base 128. -/
def digs : Nat → Nat → List Int
  | 0, _ => []
  | f + 1, n => ((n % 128 : Nat) : Int) :: if n < 128 then [] else digs f (n / 128)
theorem digs_len : ∀ f n : Nat, (digs f n).length ≤ f
  | 0, _ => by simp [digs]
  | f + 1, n => by
    unfold digs
    split
    · simp
    · have := digs_len f (n / 128)
      simp
      omega
theorem div128 (n : Nat) : Int.tdiv (n : Int) 128 = ((n / 128 : Nat) : Int) := by rw [Int.tdiv_eq_ediv_of_nonneg (by omega)]; omega
theorem mod128 (n : Nat) : Int.tmod (n : Int) 128 = ((n % 128 : Nat) : Int) := by rw [Int.tmod_eq_emod_of_nonneg (by omega)]; omega
theorem digits_l (a : Int) : ∀ (f n : Nat) (pre : List Int), n < 128 ^ f → n < 18446744073709551616 → pre.length + f ≤ 100 →
    V.pleachref01_Digits.l11100 a (n : Int) pre = some (pre ++ if n = 0 then [] else digs f n)
  | 0, n, pre, hn, _, _ => by
    have : n = 0 := by simpa using hn
    subst this
    refine V.pleachref01_Digits.l11100.of _ _ _ ?_
    unfold F.pleachref01_Digits.l11100.B
    rw [if_no (by omega)]
    simp
  | f + 1, n, pre, hn, h64, hl => by
    refine V.pleachref01_Digits.l11100.of _ _ _ ?_
    unfold F.pleachref01_Digits.l11100.B
    by_cases h0 : n = 0
    · subst h0
      rw [if_no (by omega)]
      simp
    · rw [if_yes (by omega), guard_dec (by simp [nmax]; omega), div128, mod128, u64_id (by omega) (by omega), w64_id (by omega) (by omega)]
      rw [digits_l a f (n / 128) _ (by rw [Nat.pow_succ] at hn; exact Nat.div_lt_of_lt_mul (by omega)) (by omega) (by simp; omega)]
      rw [if_neg h0]
      have : digs (f + 1) n = ((n % 128 : Nat) : Int) :: if n < 128 then [] else digs f (n / 128) := rfl
      rw [this]
      by_cases hlt : n < 128
      · have : n / 128 = 0 := by omega
        simp [this, hlt]
      · have : ¬ n / 128 = 0 := by omega
        simp [this, hlt]
theorem digits_ok (n : Nat) (h64 : n < 18446744073709551616) : V.pleachref01_Digits (n : Int) = some (digs 10 n) := by
  refine V.pleachref01_Digits.of _ ?_
  unfold F.pleachref01_Digits.B
  rw [div128, mod128, u64_id (by omega) (by omega), w64_id (by omega) (by omega)]
  rw [digits_l (n : Int) 9 (n / 128) _ (by omega) (by omega) (by simp)]
  have : digs 10 n = ((n % 128 : Nat) : Int) :: if n < 128 then [] else digs 9 (n / 128) := rfl
  rw [this]
  by_cases hlt : n < 128
  · have : n / 128 = 0 := by omega
    simp [this, hlt]
  · have : ¬ n / 128 = 0 := by omega
    simp [this, hlt]
theorem digs_at : ∀ (f n i : Nat), n < 128 ^ f → i < (digs f n).length → 0 ≤ (digs f n).getD i 0 ∧ (digs f n).getD i 0 < 128
  | 0, _, _, _, h => by simp [digs] at h
  | f + 1, n, 0, _, _ => by simp [digs]; omega
  | f + 1, n, i + 1, hn, h => by
    unfold digs at h ⊢
    by_cases hlt : n < 128
    · simp [hlt] at h
    · simp only [hlt, if_false] at h ⊢
      have := digs_at f (n / 128) i (by rw [Nat.pow_succ] at hn; exact Nat.div_lt_of_lt_mul (by omega)) (by simpa using h)
      simpa using this
/-- With the marks: all but the last have 128 more. -/
def marks : List Int → List Int
  | [] => []
  | [c] => [c]
  | c :: d :: r => (c + 128) :: marks (d :: r)
theorem marks_digs : ∀ (f n : Nat), n < 128 ^ f → marks (digs f n) = vput f n
  | 0, n, h => by simp [digs, marks, vput]
  | f + 1, n, h => by
    unfold digs vput
    by_cases hlt : n < 128
    · simp [hlt, marks]
      omega
    · simp only [hlt, if_false]
      cases f with
      | zero => simp at h; omega
      | succ f =>
        have ih := marks_digs (f + 1) (n / 128) (by rw [Nat.pow_succ] at h; exact Nat.div_lt_of_lt_mul (by omega))
        rw [show digs (f + 1) (n / 128) = ((n / 128 % 128 : Nat) : Int) :: if n / 128 < 128 then [] else digs f (n / 128 / 128) from rfl] at ih ⊢
        rw [marks, ih]
        simp
theorem one_size (c : Int) : (bytesOf [c]).size = 1 := strOfNums_size [c]
theorem put_l (a : Int) (l : List Int) (hl : l.length ≤ 10) (hd : ∀ i, i < l.length → 0 ≤ l.getD i 0 ∧ l.getD i 0 < 128) : ∀ (d i : Nat) (out : ByteArray), i + d = l.length → out.size ≤ i →
    V.pleachref01_Put.l111010 a out (i : Int) l = some (out ++ bytesOf (marks (l.drop i)))
  | 0, i, out, h, ho => by
    refine V.pleachref01_Put.l111010.of _ _ _ _ ?_
    unfold F.pleachref01_Put.l111010.B
    rw [if_out (by omega), List.drop_eq_nil_of_le (by omega)]
    simp [marks, bytesOf]
    apply ByteArray.ext
    simp
  | d + 1, i, out, h, ho => by
    refine V.pleachref01_Put.l111010.of _ _ _ _ ?_
    unfold F.pleachref01_Put.l111010.B
    have hil : i < l.length := by omega
    have hb := hd i hil
    have hg : l.getD i 0 = l[i] := by simp [List.getD_eq_getElem?_getD, List.getElem?_eq_getElem hil]
    have hr : rd (.int .i64) l i = l[i] := rd_get (e := .int .i64) hil
    have hdr : l.drop i = l[i] :: l.drop (i + 1) := List.drop_eq_getElem_cons hil
    rw [hg] at hb
    rw [if_in hil, guard_in hil, w64_up hil (by omega), nat_cast, hr, w64_id (x := l[i] + 128) (by omega) (by omega), u8_mod, u8_mod]
    rw [guard_dec (by rw [one_size]; simp [i64max]; omega), guard_dec (by rw [one_size]; simp [i64max]; omega)]
    have ih : ∀ c : Int, V.pleachref01_Put.l111010 a (out ++ bytesOf [c]) ((i + 1 : Nat) : Int) l = _ := fun c => put_l a l hl hd d (i + 1) _ (by omega) (by rw [ByteArray.size_append, one_size]; omega)
    rw [ih, ih]
    by_cases hlast : i + 1 < l.length
    · rw [if_in hlast, hdr, List.drop_eq_getElem_cons hlast, marks, ← List.drop_eq_getElem_cons hlast]
      rw [ByteArray.append_assoc, ← strOfNums_append]
      have : (l[i] + 128) % 256 = l[i] + 128 := by omega
      rw [this]
      rfl
    · rw [if_out (by omega)]
      have hnil : l.drop (i + 1) = [] := List.drop_eq_nil_of_le (by omega)
      rw [hdr, hnil, marks]
      have : l[i] % 256 = l[i] := by omega
      rw [this, ByteArray.append_assoc, ← strOfNums_append]
      rfl
theorem refPut_ok (n : Nat) (h64 : n < 18446744073709551616) : V.pleachref01_Put (n : Int) = some (numB n) := by
  refine V.pleachref01_Put.of _ ?_
  unfold F.pleachref01_Put.B
  rw [digits_ok n h64, Option.bind_some]
  have hn : n < 128 ^ 10 := by omega
  have := put_l (n : Int) (digs 10 n) (digs_len 10 n) (fun i hi => digs_at 10 n i hn hi) (digs 10 n).length 0 ⟨#[]⟩ (by omega) (by simp [ByteArray.size])
  rw [show (0 : Int) = ((0 : Nat) : Int) from rfl, this, List.drop_zero, marks_digs 10 n hn]
  congr 1
theorem xor_zero (x : Int) (h0 : 0 ≤ x) (h1 : x < 18446744073709551616) : (((BitVec.ofInt 64 x ^^^ BitVec.ofInt 64 0).toNat : Nat) : Int) = x := by
  obtain ⟨n, rfl⟩ := Int.eq_ofNat_of_zero_le h0
  have e2 : (BitVec.ofInt 64 (n : Int) ^^^ BitVec.ofInt 64 0).toNat = n := by
    have : BitVec.ofInt 64 0 = 0#64 := rfl
    rw [this, BitVec.xor_zero, BitVec.toNat_ofInt]
    omega
  rw [e2]
theorem xor_ones (x : Int) (h0 : 0 ≤ x) (h1 : x < 18446744073709551616) : (((BitVec.ofInt 64 x ^^^ BitVec.ofInt 64 18446744073709551615).toNat : Nat) : Int) = 18446744073709551615 - x := by
  obtain ⟨n, rfl⟩ := Int.eq_ofNat_of_zero_le h0
  have : BitVec.ofInt 64 18446744073709551615 = BitVec.allOnes 64 := by decide
  rw [this, BitVec.xor_allOnes, BitVec.toNat_not, BitVec.toNat_ofInt]
  omega
/-- A number's place among 0, -1, 1, -2, 2. -/
def zig (a : Int) : Int := if 0 ≤ a then 2 * a else -2 * a - 1
theorem zig_bound {a : Int} (h0 : -9223372036854775808 ≤ a) (h1 : a ≤ 9223372036854775807) : 0 ≤ zig a ∧ zig a < 18446744073709551616 := by unfold zig; split <;> omega
theorem zig_ok {a : Int} (h0 : -9223372036854775808 ≤ a) (h1 : a ≤ 9223372036854775807) : V.varint_Zig a = some (zig a) := by
  refine V.varint_Zig.of _ ?_
  unfold F.varint_Zig.B zig
  have e1 : (2 : Int) ^ 1 = 2 := rfl
  have e2 : Int.fdiv a (2 ^ 63) = a / 9223372036854775808 := by rw [Int.fdiv_eq_ediv_of_nonneg _ (by decide)]; rfl
  congr 1
  rw [e1, e2]
  by_cases h : 0 ≤ a
  · rw [if_pos h, u64_id (x := a) (by omega) (by omega), u64_id (x := a * 2) (by omega) (by omega), show a / 9223372036854775808 = 0 by omega, u64_id (x := 0) (by omega) (by omega), xor_zero _ (by omega) (by omega), u64_id (by omega) (by omega)]
    omega
  · rw [if_neg h, show a / 9223372036854775808 = -1 by omega]
    have e1 : IntKind.wrap .u64 a = a + 18446744073709551616 := by rw [u64_mod]; omega
    have e2 : IntKind.wrap .u64 (-1) = 18446744073709551615 := by rw [u64_mod]; rfl
    have e3 : IntKind.wrap .u64 ((a + 18446744073709551616) * 2) = 2 * a + 18446744073709551616 := by rw [u64_mod]; omega
    rw [e1, e2, e3, xor_ones _ (by omega) (by omega), u64_id (by omega) (by omega)]
    omega
/-- A text's bytes: how many it has, and these. -/
def textB (s : ByteArray) : ByteArray := numB s.size ++ s
theorem textB_size (s : ByteArray) : (textB s).size ≤ 10 + s.size := by
  unfold textB
  rw [ByteArray.size_append]
  have := numB_size s.size
  omega
theorem PutText_ok (s : ByteArray) (hs : s.size ≤ 140737488351232) : V.scan_PutText s = some (textB s) := by
  refine V.scan_PutText.of _ ?_
  unfold F.scan_PutText.B
  have := numB_size s.size
  rw [u64_id (by omega) (by omega), varint_Put_ok (by omega), Option.bind_some, guard_dec (by simp [i64max]; omega)]
  rfl
/-- A value's bytes. -/
def valB (v : TValue) : ByteArray :=
  if valueB v = true then
    (if v.1 = 1 then bytesOf [1, v.2.1] else if v.1 = 2 then bytesOf [2] ++ numB (zig v.2.1).toNat else bytesOf [3] ++ textB v.2.2)
  else ⟨#[]⟩
theorem value_Put_ok (v : TValue) (hb : -9223372036854775808 ≤ v.2.1 ∧ v.2.1 ≤ 9223372036854775807) : V.value_Put v = some (valB v, if valueB v then 0 else 2) := by
  refine V.value_Put.of _ ?_
  obtain ⟨a, b, s⟩ := v
  unfold F.value_Put.B
  simp only at hb ⊢
  rw [value_Check_ok, Option.bind_some]
  unfold valB
  cases hv : valueB (a, b, s) with
  | false => simp
  | true =>
    simp only [if_true]
    unfold valueB at hv
    by_cases a1 : a = 1
    · subst a1
      simp at hv
      have hb2 : b % 256 = b := by omega
      simp only [u8_mod, hb2]
      rw [guard_dec (by rw [one_size, one_size]; simp [i64max]), ← strOfNums_append]
      rfl
    · by_cases a2 : a = 2
      · subst a2
        have hz := zig_bound hb.1 hb.2
        have e : V.scan_PutInt b = some (numB (zig b).toNat) := by
          refine V.scan_PutInt.of _ ?_
          unfold F.scan_PutInt.B
          have : V.varint_Int b = some (numB (zig b).toNat) := by
            refine V.varint_Int.of _ ?_
            unfold F.varint_Int.B
            rw [zig_ok hb.1 hb.2, Option.bind_some, Put_eq hz.1 hz.2, Option.bind_some]
          rw [this, Option.bind_some]
        have := numB_size (zig b).toNat
        rw [e, Option.bind_some, guard_dec (p := _ ≤ _) (a := some (bytesOf [_] ++ numB (zig b).toNat, (0 : Int))) (by rw [one_size]; simp [i64max]; omega)]
        simp [u8_mod]
      · have a3 : a = 3 := by simp [a1, a2] at hv; exact hv.1.1
        have h64 : s.size ≤ 64 := by simp [a1, a2] at hv; exact hv.2
        subst a3
        have := textB_size s
        rw [PutText_ok s (by omega), Option.bind_some, guard_dec (p := _ ≤ _) (a := some (bytesOf [_] ++ textB s, (0 : Int))) (by rw [one_size]; simp [i64max]; omega)]
        simp [u8_mod]
end Go.Proofs.YthnhkaaodghpgaaDoor.AE
end
section
set_option linter.unusedVariables false
set_option linter.unusedSimpArgs false
namespace Go.Proofs.YthnhkaaodghpgaaDoor.AE
open Go

end Go.Proofs.YthnhkaaodghpgaaDoor.AE
end
section
set_option linter.unusedVariables false
set_option linter.unusedSimpArgs false
namespace Go.Proofs.YthnhkaaodghpgaaDoor.AE
open Go

/-! ### Nodes and edges -/

end Go.Proofs.YthnhkaaodghpgaaDoor.AE
end
section
set_option linter.unusedVariables false
set_option linter.unusedSimpArgs false
set_option maxRecDepth 4000
namespace Go.Proofs.YthnhkaaodghpgaaDoor.AE
open Go

theorem bt_range (s : ByteArray) (i : Int) : 0 ≤ byteAt s i ∧ byteAt s i < 256 := by
  unfold byteAt
  have := UInt8.toNat_lt (s.data.toList.getD i.toNat 0)
  omega
/-! lists of bytes that are one number's -/
def dg : List Int → Nat
  | [] => 0
  | c :: r => (c % 128).toNat + 128 * dg r
/-- All but the last bear a mark. -/
def contB : List Int → Bool
  | [] => false
  | [c] => decide (c < 128)
  | c :: d :: r => decide (128 ≤ c) && contB (d :: r)
def lastOk : List Int → Bool
  | [] => false
  | [_] => true
  | _ :: d :: r => decide (0 < r.getLastD d)
def isBytes (l : List Int) : Prop := ∀ x ∈ l, 0 ≤ x ∧ x < 256
theorem vput_bytes : ∀ f n, isBytes (vput f n)
  | 0, n => by intro x hx; simp [vput] at hx
  | f + 1, n => by
    unfold vput
    split
    · intro x hx; simp at hx; omega
    · intro x hx
      simp at hx
      rcases hx with rfl | hx
      · omega
      · exact vput_bytes f (n / 128) x hx
theorem contB_vput : ∀ f n, n < 128 ^ (f + 1) → contB (vput (f + 1) n) = true
  | 0, n, h => by
    have : n < 128 := by simpa using h
    simp [vput, this, contB]
    omega
  | f + 1, n, h => by
    unfold vput
    split
    · simp [contB]; omega
    · have ih := contB_vput f (n / 128) (by rw [Nat.pow_succ] at h; exact Nat.div_lt_of_lt_mul (by omega))
      have hp := vput_pos f (n / 128)
      cases hv : vput (f + 1) (n / 128) with
      | nil => rw [hv] at hp; simp at hp
      | cons d r =>
        rw [hv] at ih
        simp [contB, ih]
        omega
theorem dg_vput : ∀ f n, n < 128 ^ f → dg (vput f n) = n
  | 0, n, h => by simp at h; simp [vput, dg, h]
  | f + 1, n, h => by
    unfold vput
    split
    · simp [dg]; omega
    · have ih := dg_vput f (n / 128) (by rw [Nat.pow_succ] at h; exact Nat.div_lt_of_lt_mul (by omega))
      simp only [dg, ih]
      omega
theorem vput_last : ∀ f n, n < 128 ^ (f + 1) → lastOk (vput (f + 1) n) = true
  | 0, n, h => by
    have : n < 128 := by simpa using h
    simp [vput, this, lastOk]
  | f + 1, n, h => by
    unfold vput
    split
    · simp [lastOk]
    · have hn : n / 128 < 128 ^ (f + 1) := by rw [Nat.pow_succ] at h; exact Nat.div_lt_of_lt_mul (by omega)
      have ih := vput_last f (n / 128) hn
      have hp := vput_pos f (n / 128)
      have hd := dg_vput (f + 1) (n / 128) hn
      have hc := contB_vput f (n / 128) hn
      cases hv : vput (f + 1) (n / 128) with
      | nil => rw [hv] at hp; simp at hp
      | cons d r =>
        rw [hv] at ih hd hc
        cases r with
        | nil =>
          have hb := vput_bytes (f + 1) (n / 128) d (by rw [hv]; simp)
          simp [lastOk]
          simp [dg] at hd
          simp [contB] at hc
          omega
        | cons e r =>
          simp only [lastOk, List.getLastD_cons] at ih ⊢
          exact ih
theorem vput_dg : ∀ (l : List Int) (f : Nat), l.length ≤ f → isBytes l → contB l = true → lastOk l = true → vput f (dg l) = l
  | [], f, _, _, h, _ => by simp [contB] at h
  | [c], f, hf, hb, hc, _ => by
    obtain ⟨f, rfl⟩ : ∃ m, f = m + 1 := ⟨f - 1, by simp at hf; omega⟩
    have := hb c (by simp)
    simp [contB] at hc
    have h1 : (c % 128).toNat = c.toNat := by omega
    have h2 : c.toNat < 128 := by omega
    simp [dg, vput, h1, h2]
    omega
  | c :: d :: r, f, hf, hb, hc, hl => by
    obtain ⟨f, rfl⟩ : ∃ m, f = m + 1 := ⟨f - 1, by simp at hf; omega⟩
    have hbc := hb c (by simp)
    simp [contB] at hc
    have hpos : 0 < dg (d :: r) ∧ lastOk (d :: r) = true := by
      simp only [lastOk, decide_eq_true_eq] at hl
      constructor
      · have : ∀ (q : List Int) (x : Int), isBytes (x :: q) → contB (x :: q) = true → 0 < q.getLastD x → 0 < dg (x :: q) := by
          intro q
          induction q with
          | nil =>
            intro x hb hc hp
            simp [contB] at hc
            simp at hp
            simp [dg]
            omega
          | cons y q ih =>
            intro x hb hc hp
            simp [contB] at hc
            rw [List.getLastD_cons] at hp
            have := ih y (fun z hz => hb z (by simp at hz ⊢; right; exact hz)) hc.2 hp
            have hdg : dg (x :: y :: q) = (x % 128).toNat + 128 * dg (y :: q) := rfl
            omega
        exact this r d (fun z hz => hb z (by simp at hz ⊢; right; exact hz)) hc.2 hl
      · cases r with
        | nil => rfl
        | cons e r =>
          rw [List.getLastD_cons] at hl
          simp only [lastOk, decide_eq_true_eq]
          exact hl
    have ih := vput_dg (d :: r) f (by simp at hf ⊢; omega) (fun z hz => hb z (by simp at hz ⊢; right; exact hz)) hc.2 hpos.2
    have hdg : dg (c :: d :: r) = (c % 128).toNat + 128 * dg (d :: r) := rfl
    have hge : ¬ dg (c :: d :: r) < 128 := by omega
    rw [vput, if_neg hge]
    have h3 : dg (c :: d :: r) / 128 = dg (d :: r) := by omega
    rw [h3, ih]
    congr 1
    omega
theorem dg_bound : ∀ (l : List Int), isBytes l → dg l < 128 ^ l.length
  | [], _ => by simp [dg]
  | c :: r, hb => by
    have ih := dg_bound r (fun z hz => hb z (by simp [hz]))
    have := hb c (by simp)
    simp only [dg, List.length_cons, Nat.pow_succ]
    omega
theorem bytesOf_inj : ∀ (a b : List Int), isBytes a → isBytes b → bytesOf a = bytesOf b → a = b := by
  intro a b ha hb h
  have h1 : (a.map fun n => UInt8.ofNat n.toNat) = (b.map fun n => UInt8.ofNat n.toNat) := by
    have : (bytesOf a).data.toList = (bytesOf b).data.toList := by rw [h]
    simpa [bytesOf] using this
  have h2 : ∀ (a b : List Int), isBytes a → isBytes b → (a.map fun n => UInt8.ofNat n.toNat) = (b.map fun n => UInt8.ofNat n.toNat) → a = b := by
    intro a
    induction a with
    | nil => intro b _ _ h; cases b with | nil => rfl | cons y b => simp at h
    | cons x a ih =>
      intro b ha hb h
      cases b with
      | nil => simp at h
      | cons y b =>
        simp only [List.map_cons, List.cons.injEq] at h
        have hx := ha x (by simp)
        have hy := hb y (by simp)
        have e := congrArg UInt8.toNat h.1
        simp [UInt8.toNat_ofNat'] at e
        rw [ih b (fun z hz => ha z (by simp [hz])) (fun z hz => hb z (by simp [hz])) h.2]
        congr 1
        omega
  exact h2 a b ha hb h1
/-- d bytes from place i on. -/
def bl (s : ByteArray) : Nat → Nat → List Int
  | 0, _ => []
  | d + 1, i => byteAt s (i : Int) :: bl s d (i + 1)
theorem bl_len (s : ByteArray) : ∀ d i, (bl s d i).length = d
  | 0, _ => rfl
  | d + 1, i => by simp [bl, bl_len s d (i + 1)]
theorem bl_bytes (s : ByteArray) : ∀ d i, isBytes (bl s d i)
  | 0, _ => by intro x hx; simp [bl] at hx
  | d + 1, i => by
    intro x hx
    simp [bl] at hx
    rcases hx with rfl | hx
    · have := bt_range s (i : Int); omega
    · exact bl_bytes s d (i + 1) x hx
theorem bl_snoc (s : ByteArray) : ∀ d i, bl s (d + 1) i = bl s d i ++ [byteAt s ((i + d : Nat) : Int)]
  | 0, i => by simp [bl]
  | d + 1, i => by
    have := bl_snoc s d (i + 1)
    rw [bl, this, bl]
    simp
    congr 1
    omega
theorem bt_of (s : ByteArray) (i : Nat) (h : i < s.size) : UInt8.ofNat (byteAt s (i : Int)).toNat = s.data.toList[i]'(by rw [Array.length_toList]; exact h) := by
  rw [bt_data s i h, Int.toNat_natCast, UInt8.ofNat_toNat]
theorem bytesOf_bl (s : ByteArray) : ∀ d, d ≤ s.size → bytesOf (bl s d 0) = s.extract 0 d
  | 0, _ => by
    apply ByteArray.ext
    simp [bl, bytesOf]
  | d + 1, h => by
    have ih := bytesOf_bl s d (by omega)
    rw [bl_snoc, strOfNums_append, ih, Nat.zero_add]
    apply ByteArray.ext
    apply Array.ext'
    have hl : s.data.toList.length = s.size := by rw [Array.length_toList]; rfl
    simp only [bytesOf, ByteArray.data_append, ByteArray.data_extract, Array.toList_append, Array.toList_extract, List.map_cons, List.map_nil, List.extract_eq_take_drop, List.drop_zero, Nat.sub_zero]
    rw [List.take_succ_eq_append_getElem (by omega), bt_of s d (by omega)]
theorem dg_snoc : ∀ (l : List Int) (c : Int), dg (l ++ [c]) = dg l + 128 ^ l.length * (c % 128).toNat
  | [], c => by simp [dg]
  | d :: l, c => by
    simp only [List.cons_append, dg, dg_snoc l c, List.length_cons, Nat.pow_succ, Nat.mul_add]
    have : 128 * (128 ^ l.length * (c % 128).toNat) = 128 ^ l.length * 128 * (c % 128).toNat := by
      rw [← Nat.mul_assoc, Nat.mul_comm 128]
    omega
theorem contB_bl (s : ByteArray) (e : Nat) (h1 : ∀ j, j < e → 128 ≤ byteAt s (j : Int)) (h2 : byteAt s (e : Int) < 128) : ∀ d i, i + d = e → contB (bl s (d + 1) i) = true
  | 0, i, h => by
    obtain rfl : i = e := by omega
    simp [bl, contB, h2]
  | d + 1, i, h => by
    have ih := contB_bl s e h1 h2 d (i + 1) (by omega)
    have e1 : bl s (d + 1 + 1) i = byteAt s (i : Int) :: byteAt s ((i + 1 : Nat) : Int) :: bl s d (i + 1 + 1) := rfl
    have e2 : bl s (d + 1) (i + 1) = byteAt s ((i + 1 : Nat) : Int) :: bl s d (i + 1 + 1) := rfl
    rw [e2] at ih
    rw [e1]
    simp [contB, h1 i (by omega)]
    simpa using ih
theorem getLastD_bl (s : ByteArray) : ∀ d i (a : Int), (bl s d i).getLastD a = if d = 0 then a else byteAt s ((i + d - 1 : Nat) : Int)
  | 0, i, a => by simp [bl]
  | d + 1, i, a => by
    rw [bl_snoc, List.getLastD_concat, if_neg (by omega)]
    congr 1
theorem lastOk_bl (s : ByteArray) (e : Nat) : lastOk (bl s (e + 1) 0) = (decide (e = 0) || decide (0 < byteAt s (e : Int))) := by
  cases e with
  | zero => simp [bl, lastOk]
  | succ e =>
    have e1 : bl s (e + 1 + 1) 0 = byteAt s ((0 : Nat) : Int) :: byteAt s ((1 : Nat) : Int) :: bl s e 2 := rfl
    rw [e1]
    simp only [lastOk, getLastD_bl]
    cases e with
    | zero => simp
    | succ e =>
      have : 2 + (e + 1) - 1 = e + 1 + 1 := by omega
      simp [this]
/-- The first place, from i on within d places, of a byte without a mark. -/
def endAt (s : ByteArray) : Nat → Nat → Option Nat
  | 0, _ => none
  | d + 1, i => if 128 ≤ byteAt s (i : Int) then endAt s d (i + 1) else some i
theorem endAt_some (s : ByteArray) : ∀ d i e, endAt s d i = some e → i ≤ e ∧ e < i + d ∧ byteAt s (e : Int) < 128 ∧ ∀ j, i ≤ j → j < e → 128 ≤ byteAt s (j : Int)
  | 0, i, e, h => by simp [endAt] at h
  | d + 1, i, e, h => by
    unfold endAt at h
    split at h
    · rename_i hb
      obtain ⟨h1, h2, h3, h4⟩ := endAt_some s d (i + 1) e h
      refine ⟨by omega, by omega, h3, fun j hj1 hj2 => ?_⟩
      by_cases hij : j = i
      · rw [hij]; exact hb
      · exact h4 j (by omega) hj2
    · injection h with h
      subst h
      exact ⟨by omega, by omega, by omega, fun j h1 h2 => by omega⟩
theorem endAt_none (s : ByteArray) : ∀ d i, endAt s d i = none → ∀ j, i ≤ j → j < i + d → 128 ≤ byteAt s (j : Int)
  | 0, i, _, j, h1, h2 => by omega
  | d + 1, i, h, j, h1, h2 => by
    unfold endAt at h
    split at h
    · rename_i hb
      by_cases hij : j = i
      · rw [hij]; exact hb
      · exact endAt_none s d (i + 1) h j (by omega) (by omega)
    · cases h
/-- The number with which bytes begin, how many bytes it has, and whether there is one. -/
def getB (s : ByteArray) : Int × Int × Bool :=
  match endAt s s.size 0 with
  | none => (0, 0, false)
  | some e => if e ≤ 9 ∧ (e = 9 → byteAt s (e : Int) ≤ 1) ∧ (e = 0 ∨ 0 < byteAt s (e : Int)) then ((dg (bl s (e + 1) 0) : Int), (e : Int) + 1, true) else (0, 0, false)
theorem wraps_u64 (n : Int) (h₀ : 0 ≤ n) (h₁ : n < 2 ^ 64) : IntKind.u64.wrap n = n := u64_id h₀ (by omega)
theorem or_add (a c m : Nat) (ha : a < 2 ^ m) (hm : m ≤ 63) (hs : a + c * 2 ^ m < 2 ^ 64) : Go.bits .or .u64 (a : Int) ((c * 2 ^ m : Nat) : Int) = ((a + c * 2 ^ m : Nat) : Int) := by
  have hc : c * 2 ^ m < 2 ^ 64 := by omega
  have ha' : a < 2 ^ 64 := Nat.lt_of_lt_of_le ha (Nat.pow_le_pow_right (by omega) (by omega))
  rw [(Go.bits_nat .u64 64 (by decide) wraps_u64 a (c * 2 ^ m) ha' hc).2]
  congr 1
  rw [Nat.or_comm, Nat.mul_comm c, ← Nat.two_pow_add_eq_or_of_lt ha, Nat.add_comm]
theorem and_127 (c : Int) (h0 : 0 ≤ c) (h1 : c < 256) : Go.bits .and .u64 c 127 = c % 128 := by
  have := Go.bits_mask .u64 64 (by decide) wraps_u64 7 (by omega) c h0 (by omega)
  simpa using this
theorem shl_u64 (x m : Nat) (hm : m ≤ 63) (hs : x * 2 ^ m < 2 ^ 64) : IntKind.wrap .u64 ((x : Int) * 2 ^ (min (m : Int).toNat 64)) = ((x * 2 ^ m : Nat) : Int) := by
  have e : min ((m : Int).toNat) 64 = m := by simp; omega
  rw [e]
  have e2 : (x : Int) * 2 ^ m = ((x * 2 ^ m : Nat) : Int) := by simp
  rw [e2]
  exact u64_id (by omega) (by omega)
theorem endAt_is (s : ByteArray) (i : Nat) (hi : i < s.size) (hm : ∀ j, j < i → 128 ≤ byteAt s (j : Int)) (hc : byteAt s (i : Int) < 128) : endAt s s.size 0 = some i := by
  cases h : endAt s s.size 0 with
  | none => have := endAt_none s s.size 0 h i (by omega) (by omega); omega
  | some e =>
    obtain ⟨_, h2, h3, h4⟩ := endAt_some s s.size 0 e h
    rcases Nat.lt_trichotomy e i with h5 | h5 | h5
    · have := hm e h5; omega
    · rw [h5]
    · have := h4 i (by omega) h5; omega
theorem endAt_far (s : ByteArray) (i : Nat) (hm : ∀ j, j < i → 128 ≤ byteAt s (j : Int)) (e : Nat) (h : endAt s s.size 0 = some e) : i ≤ e := by
  obtain ⟨_, h2, h3, h4⟩ := endAt_some s s.size 0 e h
  rcases Nat.lt_or_ge e i with h5 | h5
  · have := hm e h5; omega
  · exact h5
theorem getB_far (s : ByteArray) (i : Nat) (hi : 10 ≤ i ∨ s.size ≤ i) (hm : ∀ j, j < i → 128 ≤ byteAt s (j : Int)) : getB s = (0, 0, false) := by
  unfold getB
  cases h : endAt s s.size 0 with
  | none => rfl
  | some e =>
    have h1 := endAt_far s i hm e h
    obtain ⟨_, h2, _, _⟩ := endAt_some s s.size 0 e h
    have : ¬ e ≤ 9 := by omega
    simp [this]
theorem getB_is (s : ByteArray) (i : Nat) (hi : i < s.size) (hm : ∀ j, j < i → 128 ≤ byteAt s (j : Int)) (hc : byteAt s (i : Int) < 128) :
    getB s = if i ≤ 9 ∧ (i = 9 → byteAt s (i : Int) ≤ 1) ∧ (i = 0 ∨ 0 < byteAt s (i : Int)) then ((dg (bl s (i + 1) 0) : Int), (i : Int) + 1, true) else (0, 0, false) := by
  unfold getB
  rw [endAt_is s i hi hm hc]
/-! the reference -/
/-- The remainder of 64 bits (under a name of its own, so that nobody counts). -/
def mod64 (n : Nat) : Nat := n % 18446744073709551616
theorem mod64_eq (n : Nat) : mod64 n = n % 18446744073709551616 := rfl
theorem mod64_lt (n : Nat) : mod64 n < 18446744073709551616 := by rw [mod64_eq]; omega
theorem mod64_small {n : Nat} (h : n < 18446744073709551616) : mod64 n = n := by rw [mod64_eq]; omega
theorem numB_is (n : Nat) (hn : n < 128 ^ 10) (s : ByteArray) (e : Nat) (he : e < s.size) (h9 : e ≤ 9) (hm : ∀ j, j < e → 128 ≤ byteAt s (j : Int)) (hc : byteAt s (e : Int) < 128) (h64 : n = mod64 (dg (bl s (e + 1) 0))) :
    ((numB n).toList = (s.extract 0 (e + 1)).toList) ↔ ((e = 9 → byteAt s (e : Int) ≤ 1) ∧ (e = 0 ∨ 0 < byteAt s (e : Int))) := by
  have hcont := contB_bl s e hm hc e 0 (by omega)
  have hlast := lastOk_bl s e
  have hlen := bl_len s (e + 1) 0
  have hby := bl_bytes s (e + 1) 0
  have hx := bytesOf_bl s (e + 1) (by omega)
  have hsn : dg (bl s (e + 1) 0) = dg (bl s e 0) + 128 ^ e * (byteAt s (e : Int) % 128).toNat := by
    rw [bl_snoc, dg_snoc, bl_len, Nat.zero_add]
  have hd := dg_bound (bl s e 0) (bl_bytes s e 0)
  rw [bl_len] at hd
  have hr := bt_range s (e : Int)
  have hv : (byteAt s (e : Int) % 128).toNat = (byteAt s (e : Int)).toNat := by omega
  constructor
  · intro h
    have h1 := bytes_ext h
    unfold numB at h1
    rw [← hx] at h1
    have h2 := bytesOf_inj _ _ (vput_bytes 10 n) hby h1
    have h3 : dg (bl s (e + 1) 0) = n := by rw [← h2]; exact dg_vput 10 n hn
    have h4 : lastOk (bl s (e + 1) 0) = true := by rw [← h2]; exact vput_last 9 n hn
    rw [hlast] at h4
    refine ⟨fun h9' => ?_, by simpa using h4⟩
    subst h9'
    rw [h3, hv] at hsn
    have : n < 18446744073709551616 := by rw [h64]; exact mod64_lt _
    have h5 : (byteAt s ((9 : Nat) : Int)).toNat ≤ 1 := by
      rcases Nat.lt_or_ge 1 (byteAt s ((9 : Nat) : Int)).toNat with h6 | h6
      · have : 128 ^ 9 * 2 ≤ 128 ^ 9 * (byteAt s ((9 : Nat) : Int)).toNat := Nat.mul_le_mul_left _ h6
        omega
      · exact h6
    omega
  · rintro ⟨h1, h2⟩
    have h4 : lastOk (bl s (e + 1) 0) = true := by rw [hlast]; simpa using h2
    have h5 := vput_dg (bl s (e + 1) 0) 10 (by omega) hby hcont h4
    have h6 : dg (bl s (e + 1) 0) < 18446744073709551616 := by
      by_cases he9 : e = 9
      · subst he9
        have := h1 rfl
        have : (byteAt s ((9 : Nat) : Int)).toNat ≤ 1 := by omega
        have : 128 ^ 9 * (byteAt s ((9 : Nat) : Int)).toNat ≤ 128 ^ 9 * 1 := Nat.mul_le_mul_left _ this
        rw [hsn, hv]
        omega
      · have := dg_bound (bl s (e + 1) 0) hby
        rw [hlen] at this
        have h7 : 128 ^ (e + 1) ≤ 128 ^ 9 := Nat.pow_le_pow_right (by omega) (by omega)
        omega
    have h7 : n = dg (bl s (e + 1) 0) := by rw [h64, mod64_small h6]
    unfold numB
    rw [h7, h5, hx]
theorem ref_mod (s : ByteArray) (i m : Nat) : IntKind.u64.wrap ((IntKind.u64.wrap (((mod64 (dg (bl s m (i + 1))) : Nat) : Int) * 128)) + (Int.tmod (IntKind.u64.wrap (byteAt s (i : Int))) 128)) = ((mod64 (dg (byteAt s (i : Int) :: bl s m (i + 1))) : Nat) : Int) := by
  have hr := bt_range s (i : Int)
  rw [u64_id (x := byteAt s (i : Int)) hr.1 (by omega), Int.tmod_eq_emod_of_nonneg hr.1, u64_mod, u64_mod, mod64_eq, mod64_eq]
  have : dg (byteAt s (i : Int) :: bl s m (i + 1)) = (byteAt s (i : Int) % 128).toNat + 128 * dg (bl s m (i + 1)) := rfl
  rw [this]
  generalize dg (bl s m (i + 1)) = D
  generalize byteAt s (i : Int) = c at hr ⊢
  omega
theorem lim70 {n : Nat} (h : n < 18446744073709551616) : n < 128 ^ 10 := by omega

theorem get_or (s : ByteArray) (i : Nat) (h9 : i ≤ 9) (hc : i = 9 → byteAt s (i : Int) ≤ 1) :
    IntKind.wrap .u64 ((BitVec.ofInt 64 ((dg (bl s i 0) : Nat) : Int) ||| BitVec.ofInt 64 (IntKind.wrap .u64 ((IntKind.wrap .u64 ((BitVec.ofInt 64 (IntKind.wrap .u64 (byteAt s (i : Int))) &&& BitVec.ofInt 64 127).toNat : Int)) * 2 ^ (min (w64 (7 * (i : Int))).toNat 64)))).toNat : Int) = ((dg (bl s (i + 1) 0) : Nat) : Int) := by
  have hr := bt_range s (i : Int)
  have hp : 128 ^ i = 2 ^ (7 * i) := by rw [show (128 : Nat) = 2 ^ 7 from rfl, ← Nat.pow_mul]
  have hd := dg_bound (bl s i 0) (bl_bytes s i 0)
  rw [bl_len, hp] at hd
  obtain ⟨x, hx⟩ : ∃ x : Nat, byteAt s (i : Int) % 128 = x := ⟨(byteAt s (i : Int) % 128).toNat, by omega⟩
  have hx2 : x ≤ 127 := by omega
  have hb : dg (bl s i 0) + x * 2 ^ (7 * i) < 2 ^ 64 ∧ x * 2 ^ (7 * i) < 2 ^ 64 := by
    by_cases h : i = 9
    · subst h
      have := hc rfl
      have : x ≤ 1 := by omega
      have : x * 2 ^ (7 * 9) ≤ 1 * 2 ^ (7 * 9) := Nat.mul_le_mul_right _ this
      omega
    · have h1 : 2 ^ (7 * i) ≤ 2 ^ 56 := Nat.pow_le_pow_right (by omega) (by omega)
      have : x * 2 ^ (7 * i) ≤ 127 * 2 ^ 56 := Nat.mul_le_mul hx2 h1
      omega
  have e1 : IntKind.wrap .u64 ((BitVec.ofInt 64 (IntKind.wrap .u64 (byteAt s (i : Int))) &&& BitVec.ofInt 64 127).toNat : Int) = (x : Int) := by
    rw [u64_id hr.1 (by omega), ← hx]
    exact and_127 _ hr.1 (by omega)
  rw [e1, w64_id (by omega) (by omega), show (7 * (i : Int)) = ((7 * i : Nat) : Int) by omega, shl_u64 x (7 * i) (by omega) hb.2]
  refine (or_add _ x (7 * i) hd (by omega) hb.1).trans ?_
  congr 1
  rw [bl_snoc, dg_snoc, bl_len, hp, Nat.zero_add, hx, Int.toNat_natCast, Nat.mul_comm]
theorem min10 (n : Nat) : (if (10 : Int) < (n : Int) then (10 : Int) else (n : Int)) = ((min n 10 : Nat) : Int) := by split <;> omega
theorem Get_l (s : ByteArray) (hs : s.size ≤ 140737488351232) : ∀ d i : Nat, i + d = min s.size 10 → (∀ j, j < i → 128 ≤ byteAt s (j : Int)) →
    V.varint_Get.l1010 s ((dg (bl s i 0) : Nat) : Int) (i : Int) = some (getB s)
  | 0, i, h, hm => by
    refine V.varint_Get.l1010.of _ _ _ ?_
    unfold F.varint_Get.l1010.B
    rw [min10, if_out (by omega), getB_far s i (by omega) hm]
  | d + 1, i, h, hm => by
    refine V.varint_Get.l1010.of _ _ _ ?_
    unfold F.varint_Get.l1010.B
    have hr := bt_range s (i : Int)
    have hi : i < s.size := by omega
    have ih : byteAt s (i : Int) ≥ 128 → V.varint_Get.l1010 s ((dg (bl s (i + 1) 0) : Nat) : Int) ((i + 1 : Nat) : Int) = some (getB s) := fun hc => Get_l s hs d (i + 1) (by omega) (fun j hj => by
      by_cases hij : j = i
      · rw [hij]; omega
      · exact hm j (by omega))
    have eu : IntKind.wrap .u64 (byteAt s (i : Int)) = byteAt s (i : Int) := u64_id hr.1 (by omega)
    rw [min10, if_in (by omega), guard_in hi]
    have e7 : w64 (7 * (i : Int)) = 7 * (i : Int) := w64_id (by omega) (by omega)
    have e8 : w64 ((i : Int) + 1) = ((i + 1 : Nat) : Int) := w64_up hi hs
    have rest : (i = 9 → byteAt s (i : Int) ≤ 1) → (if (w64 (7 * (i : Int))) < 0 then none else (bif (decide ((IntKind.wrap .u64 (byteAt s (i : Int))) ≥ 128)) then (V.varint_Get.l1010 s ((dg (bl s (i + 1) 0) : Nat) : Int) (w64 ((i : Int) + 1))) else (bif ((IntKind.wrap .u64 (byteAt s (i : Int))) == 0) then (bif (decide ((i : Int) > 0)) then (some (0, 0, false)) else (some (((dg (bl s (i + 1) 0) : Nat) : Int), (w64 ((i : Int) + 1)), true))) else (some (((dg (bl s (i + 1) 0) : Nat) : Int), (w64 ((i : Int) + 1)), true))))) = some (getB s) := by
      intro hc9
      rw [e7, e8, if_neg (by omega), eu]
      by_cases hc : byteAt s (i : Int) < 128
      · rw [if_no (by omega), getB_is s i hi hm hc]
        by_cases h0 : byteAt s (i : Int) = 0
        · rw [show (byteAt s (i : Int) == 0) = true by simp [h0], cond_true]
          by_cases hi0 : i = 0
          · rw [if_no (by omega), if_pos ⟨by omega, hc9, Or.inl hi0⟩]; rfl
          · rw [if_yes (by omega), if_neg (by rintro ⟨_, _, h3⟩; omega)]
        · rw [show (byteAt s (i : Int) == 0) = false by simp [h0], cond_false, if_pos ⟨by omega, hc9, Or.inr (by omega)⟩]; rfl
      · rw [if_yes (by omega)]
        exact ih (by omega)
    by_cases h9 : i = 9
    · rw [show ((i : Int) == 9) = true by simp; omega, cond_true]
      by_cases hb : byteAt s (i : Int) ≤ 1
      · rw [if_no (by rw [eu]; omega), get_or s i (by omega) (fun _ => hb)]
        exact rest (fun _ => hb)
      · rw [if_yes (by rw [eu]; omega)]
        by_cases hc : byteAt s (i : Int) < 128
        · rw [getB_is s i hi hm hc, if_neg (by rintro ⟨_, h1, _⟩; have := h1 h9; omega)]
        · rw [getB_far s (i + 1) (by omega) (fun j hj => by
            by_cases hij : j = i
            · rw [hij]; omega
            · exact hm j (by omega))]
    · rw [show ((i : Int) == 9) = false by simp; omega, cond_false, get_or s i (by omega) (fun h => absurd h h9)]
      exact rest (fun h => absurd h h9)
theorem Get_ok (s : ByteArray) (hs : s.size ≤ 140737488351232) : V.varint_Get s = some (getB s) := by
  refine V.varint_Get.of _ ?_
  unfold F.varint_Get.B
  have := Get_l s hs (min s.size 10) 0 (by omega) (fun j hj => by omega)
  simpa [bl, dg] using this
theorem refGet_end (s : ByteArray) (hs : s.size ≤ 140737488351232) (e : Nat) (he : e < s.size) (h9 : e ≤ 9) (hm : ∀ j, j < e → 128 ≤ byteAt s (j : Int)) (hc : byteAt s (e : Int) < 128) (N : Nat) (hlt : N < 18446744073709551616) (hN : N = mod64 (dg (bl s (e + 1) 0))) :
    (bif !strEq (numB N) (s.extract 0 (e + 1)) then some ((0 : Int), (0 : Int), false) else some ((N : Int), ((e + 1 : Nat) : Int), true)) = some (getB s) := by
  rw [getB_is s e he hm hc]
  have key := numB_is N (lim70 hlt) s e he h9 hm hc hN
  by_cases hq : (e = 9 → byteAt s (e : Int) ≤ 1) ∧ (e = 0 ∨ 0 < byteAt s (e : Int))
  · rw [strEq_iff.2 (bytes_ext (key.2 hq)), if_pos ⟨h9, hq.1, hq.2⟩]
    have h6 : dg (bl s (e + 1) 0) = N := by
      have h := key.2 hq
      have hx := bytesOf_bl s (e + 1) (by omega)
      have h1 := bytes_ext h
      unfold numB at h1
      rw [← hx] at h1
      have h2 := bytesOf_inj _ _ (vput_bytes 10 _) (bl_bytes s (e + 1) 0) h1
      have h3 := dg_vput 10 N (lim70 hlt)
      rw [h2] at h3
      exact h3
    rw [h6]
    rfl
  · rw [strEq_no (fun h => hq (key.1 (by rw [h]))), if_neg (fun h => hq ⟨h.2.1, h.2.2⟩)]
    rfl
theorem refGet_l1 (s : ByteArray) (hs : s.size ≤ 140737488351232) (e : Nat) (he : e < s.size) (h9 : e ≤ 9) (hm : ∀ j, j < e → 128 ≤ byteAt s (j : Int)) (hc : byteAt s (e : Int) < 128) : ∀ (i : Nat), i ≤ e + 1 →
    V.pleachref01_Get.l11111010 s (e : Int) ((mod64 (dg (bl s (e + 1 - i) i)) : Nat) : Int) ((i : Int) - 1) = some (getB s) := by
  intro i
  induction i with
  | zero =>
    intro hi
    refine V.pleachref01_Get.l11111010.of _ _ _ _ ?_
    unfold F.pleachref01_Get.l11111010.B
    rw [if_no (by omega), w64_up he hs, guard_of (by simp; omega), Nat.sub_zero, refPut_ok _ (mod64_lt _), Option.bind_some, nat_cast]
    exact refGet_end s hs e he h9 hm hc _ (mod64_lt _) rfl
  | succ i ih =>
    intro hi
    refine V.pleachref01_Get.l11111010.of _ _ _ _ ?_
    unfold F.pleachref01_Get.l11111010.B
    have e0 : (((i + 1 : Nat) : Int) - 1) = (i : Int) := by omega
    have e2 : bl s (e + 1 - i) i = byteAt s (i : Int) :: bl s (e + 1 - (i + 1)) (i + 1) := by
      rw [show e + 1 - i = (e + 1 - (i + 1)) + 1 by omega, bl]
    have ih2 := ih (by omega)
    rw [e2] at ih2
    rw [e0, if_yes (by omega), guard_in (by omega), ref_mod, w64_id (by omega) (by omega)]
    exact ih2
theorem refGet_j (s : ByteArray) (hs : s.size ≤ 140737488351232) (i : Nat) (hi : i ≤ s.size) (hm : ∀ j, j < i → 128 ≤ byteAt s (j : Int)) (hc : i < s.size → byteAt s (i : Int) < 128) : (bif (decide ((i : Int) ≥ (s.size : Int))) then (some (0, 0, false)) else (bif (decide ((i : Int) > 9)) then (some (0, 0, false)) else (V.pleachref01_Get.l11111010 s (i : Int) 0 (i : Int)))) = some (getB s) := by
  by_cases h1 : i < s.size
  · rw [if_no (by omega)]
    by_cases h9 : i ≤ 9
    · rw [if_no (by omega)]
      have := refGet_l1 s hs i h1 h9 hm (hc h1) (i + 1) (by omega)
      rw [show i + 1 - (i + 1) = 0 by omega, show ((i + 1 : Nat) : Int) - 1 = (i : Int) by omega] at this
      exact this
    · rw [if_yes (by omega), getB_far s i (by omega) hm]
  · rw [if_yes (by omega), getB_far s i (by omega) hm]
theorem refGet_l (s : ByteArray) (hs : s.size ≤ 140737488351232) : ∀ d i : Nat, i + d = s.size → (∀ j, j < i → 128 ≤ byteAt s (j : Int)) → V.pleachref01_Get.l1100 s (i : Int) = some (getB s)
  | 0, i, h, hm => by
    refine V.pleachref01_Get.l1100.of _ _ ?_
    unfold F.pleachref01_Get.l1100.B
    rw [if_out (by omega)]
    exact refGet_j s hs i (by omega) hm (fun h => by omega)
  | d + 1, i, h, hm => by
    refine V.pleachref01_Get.l1100.of _ _ ?_
    unfold F.pleachref01_Get.l1100.B
    rw [if_in (by omega), guard_in (by omega)]
    by_cases hc : byteAt s (i : Int) ≥ 128
    · rw [if_yes hc, w64_up (show i < s.size by omega) hs]
      exact refGet_l s hs d (i + 1) (by omega) (fun j hj => by
        by_cases hij : j = i
        · rw [hij]; omega
        · exact hm j (by omega))
    · rw [if_no hc]
      exact refGet_j s hs i (by omega) hm (fun h => by omega)
theorem refGet_ok (s : ByteArray) (hs : s.size ≤ 140737488351232) : V.pleachref01_Get s = some (getB s) := by
  refine V.pleachref01_Get.of _ ?_
  unfold F.pleachref01_Get.B
  exact refGet_l s hs s.size 0 (by omega) (fun j hj => by omega)

/-! ### What stands where -/

/-- These bytes stand in s at place a. -/
def AtB (s : ByteArray) (a : Nat) (B : ByteArray) : Prop := a + B.size ≤ s.size ∧ s.extract a (a + B.size) = B
theorem extract_toList (s : ByteArray) (a b : Nat) : (s.extract a b).data.toList = (s.data.toList.drop a).take (b - a) := by
  rw [ByteArray.data_extract, Array.toList_extract, List.extract_eq_take_drop]
theorem tail_extract (s : ByteArray) (a m : Nat) (h : a + m ≤ s.size) : (s.extract a s.size).extract 0 m = s.extract a (a + m) := by
  apply ByteArray.ext
  apply Array.ext'
  rw [extract_toList, extract_toList, extract_toList, List.drop_zero, List.take_take]
  congr 1
  omega
theorem tail_size (s : ByteArray) (a : Nat) : (s.extract a s.size).size = s.size - a := by rw [ByteArray.size_extract]; omega

theorem contB_bl_conv (s : ByteArray) : ∀ d i, contB (bl s (d + 1) i) = true → (∀ j, i ≤ j → j < i + d → 128 ≤ byteAt s (j : Int)) ∧ byteAt s ((i + d : Nat) : Int) < 128
  | 0, i, h => by
    simp [bl, contB] at h
    exact ⟨fun j h1 h2 => by omega, by simpa using h⟩
  | d + 1, i, h => by
    have e1 : bl s (d + 1 + 1) i = byteAt s (i : Int) :: byteAt s ((i + 1 : Nat) : Int) :: bl s d (i + 1 + 1) := rfl
    have e2 : bl s (d + 1) (i + 1) = byteAt s ((i + 1 : Nat) : Int) :: bl s d (i + 1 + 1) := rfl
    rw [e1] at h
    simp only [contB, Bool.and_eq_true, decide_eq_true_eq] at h
    rw [← e2] at h
    obtain ⟨h1, h2⟩ := contB_bl_conv s d (i + 1) h.2
    refine ⟨fun j hj1 hj2 => ?_, by rw [show i + (d + 1) = i + 1 + d by omega]; exact h2⟩
    by_cases hij : j = i
    · rw [hij]; exact h.1
    · exact h1 j (by omega) (by omega)
theorem dg_lt (s : ByteArray) (e : Nat) (h9 : e ≤ 9) (hc : byteAt s (e : Int) < 128) (h1 : e = 9 → byteAt s (e : Int) ≤ 1) : dg (bl s (e + 1) 0) < 18446744073709551616 := by
  have hby := bl_bytes s (e + 1) 0
  have hlen := bl_len s (e + 1) 0
  have hsn : dg (bl s (e + 1) 0) = dg (bl s e 0) + 128 ^ e * (byteAt s (e : Int) % 128).toNat := by rw [bl_snoc, dg_snoc, bl_len, Nat.zero_add]
  have hd := dg_bound (bl s e 0) (bl_bytes s e 0)
  rw [bl_len] at hd
  have hr := bt_range s (e : Int)
  have hv : (byteAt s (e : Int) % 128).toNat = (byteAt s (e : Int)).toNat := by omega
  by_cases he9 : e = 9
  · subst he9
    have := h1 rfl
    have : (byteAt s ((9 : Nat) : Int)).toNat ≤ 1 := by omega
    have : 128 ^ 9 * (byteAt s ((9 : Nat) : Int)).toNat ≤ 128 ^ 9 * 1 := Nat.mul_le_mul_left _ this
    rw [hsn, hv]
    omega
  · have := dg_bound (bl s (e + 1) 0) hby
    rw [hlen] at this
    have h7 : 128 ^ (e + 1) ≤ 128 ^ 9 := Nat.pow_le_pow_right (by omega) (by omega)
    omega
/-- A number's own bytes, and only they, are read as it. -/
theorem getB_iff (x : ByteArray) (N m : Nat) (h64 : N < 18446744073709551616) : getB x = ((N : Int), (m : Int), true) ↔ (m = (numB N).size ∧ AtB x 0 (numB N)) := by
  constructor
  · intro h
    cases he : endAt x x.size 0 with
    | none => unfold getB at h; rw [he] at h; simp at h
    | some e =>
      obtain ⟨_, h2, h3, h4⟩ := endAt_some x x.size 0 e he
      rw [getB_is x e (by omega) (fun j hj => h4 j (by omega) hj) h3] at h
      by_cases hq : e ≤ 9 ∧ (e = 9 → byteAt x (e : Int) ≤ 1) ∧ (e = 0 ∨ 0 < byteAt x (e : Int))
      · rw [if_pos hq] at h
        simp only [Prod.mk.injEq] at h
        have hN : dg (bl x (e + 1) 0) = N := by omega
        have hm : m = e + 1 := by omega
        have key := (numB_is N (lim70 h64) x e (by omega) hq.1 (fun j hj => h4 j (by omega) hj) h3 (by rw [hN, mod64_small h64])).2 ⟨hq.2.1, hq.2.2⟩
        have hb := bytes_ext key
        have hz : (numB N).size = e + 1 := by rw [hb, ByteArray.size_extract]; omega
        exact ⟨by omega, by omega, by rw [hz, Nat.zero_add, ← hb]⟩
      · rw [if_neg hq] at h
        simp at h
  · rintro ⟨rfl, h1, h2⟩
    have hp : 0 < (vput 10 N).length := vput_pos 9 N
    have hz : (numB N).size = (vput 10 N).length := strOfNums_size _
    obtain ⟨e, he⟩ : ∃ e, (numB N).size = e + 1 := ⟨(numB N).size - 1, by omega⟩
    rw [Nat.zero_add] at h1 h2
    have hx := bytesOf_bl x (numB N).size h1
    rw [h2] at hx
    have hl := bytesOf_inj _ _ (bl_bytes x _ 0) (vput_bytes 10 N) hx
    have hc := contB_vput 9 N (lim70 h64)
    rw [← hl, he] at hc
    obtain ⟨g1, g2⟩ := contB_bl_conv x e 0 hc
    rw [Nat.zero_add] at g2
    have h10 := numB_size N
    have hdg : dg (bl x (e + 1) 0) = N := by rw [← he, hl]; exact dg_vput 10 N (lim70 h64)
    have key := (numB_is N (lim70 h64) x e (by omega) (by omega) (fun j hj => g1 j (by omega) (by omega)) g2 (by rw [hdg, mod64_small h64])).1 (by rw [← he, h2])
    rw [getB_is x e (by omega) (fun j hj => g1 j (by omega) (by omega)) g2, if_pos ⟨by omega, key.1, key.2⟩, hdg, he]
    rfl
theorem getB_form (x : ByteArray) : (∃ N m : Nat, N < 18446744073709551616 ∧ getB x = ((N : Int), (m : Int), true)) ∨ getB x = (0, 0, false) := by
  unfold getB
  cases he : endAt x x.size 0 with
  | none => exact .inr rfl
  | some e =>
    obtain ⟨_, h2, h3, h4⟩ := endAt_some x x.size 0 e he
    by_cases hq : e ≤ 9 ∧ (e = 9 → byteAt x (e : Int) ≤ 1) ∧ (e = 0 ∨ 0 < byteAt x (e : Int))
    · left
      exact ⟨dg (bl x (e + 1) 0), e + 1, dg_lt x e hq.1 h3 hq.2.1, by simp only [if_pos hq]; rfl⟩
    · right
      simp only [if_neg hq]
/-- The number, of at most 64 bits, whose bytes stand at a place, and the place behind it. -/
def uP (s : ByteArray) (a : Nat) : Option (Nat × Nat) := if (getB (s.extract a s.size)).2.2 = true then some ((getB (s.extract a s.size)).1.toNat, a + (getB (s.extract a s.size)).2.1.toNat) else none
theorem uP_iff (s : ByteArray) (a N b : Nat) (ha : a ≤ s.size) : uP s a = some (N, b) ↔ N < 18446744073709551616 ∧ b = a + (numB N).size ∧ AtB s a (numB N) := by
  have tr : ∀ B : ByteArray, AtB (s.extract a s.size) 0 B ↔ AtB s a B := by
    intro B
    unfold AtB
    rw [tail_size, Nat.zero_add]
    constructor
    · rintro ⟨h1, h2⟩; exact ⟨by omega, by rw [← tail_extract s a B.size (by omega)]; exact h2⟩
    · rintro ⟨h1, h2⟩; exact ⟨by omega, by rw [tail_extract s a B.size (by omega)]; exact h2⟩
  unfold uP
  rcases getB_form (s.extract a s.size) with ⟨M, m, hM, hg⟩ | hg
  · have := (getB_iff _ M m hM).1 hg
    rw [hg]
    simp only [if_true, Int.toNat_natCast, Option.some.injEq, Prod.mk.injEq]
    constructor
    · rintro ⟨rfl, rfl⟩
      exact ⟨hM, by rw [this.1], (tr _).1 this.2⟩
    · rintro ⟨h1, h2, h3⟩
      have g := (getB_iff (s.extract a s.size) N (numB N).size h1).2 ⟨rfl, (tr _).2 h3⟩
      rw [hg] at g
      simp only [Prod.mk.injEq] at g
      omega
  · rw [hg]
    simp only [Bool.false_eq_true, if_false]
    constructor
    · intro h; cases h
    · rintro ⟨h1, h2, h3⟩
      have g := (getB_iff (s.extract a s.size) N (numB N).size h1).2 ⟨rfl, (tr _).2 h3⟩
      rw [hg] at g
      simp at g
def numP (most : Nat) (s : ByteArray) (a : Nat) : Option (Nat × Nat) := (uP s a).bind fun x => if x.1 ≤ most then some x else none
def fixP (n : Nat) (s : ByteArray) (a : Nat) : Option (ByteArray × Nat) := if a + n ≤ s.size then some (s.extract a (a + n), a + n) else none
theorem fixP_iff (n : Nat) (s : ByteArray) (a : Nat) (t : ByteArray) (b : Nat) : fixP n s a = some (t, b) ↔ t.size = n ∧ b = a + n ∧ AtB s a t := by
  unfold fixP AtB
  constructor
  · intro h
    split at h
    · rename_i h1
      simp only [Option.some.injEq, Prod.mk.injEq] at h
      obtain ⟨rfl, rfl⟩ := h
      have : (s.extract a (a + n)).size = n := by rw [ByteArray.size_extract]; omega
      exact ⟨this, rfl, by omega, by rw [this]⟩
    · cases h
  · rintro ⟨rfl, rfl, h1, h2⟩
    rw [if_pos h1, h2]
def textP (most : Nat) (s : ByteArray) (a : Nat) : Option (ByteArray × Nat) := (numP most s a).bind fun x => fixP x.1 s x.2
end Go.Proofs.YthnhkaaodghpgaaDoor.AE
end
section
set_option linter.unusedVariables false
set_option linter.unusedSimpArgs false
set_option maxRecDepth 4000
namespace Go.Proofs.YthnhkaaodghpgaaDoor.AE
open Go

theorem uP_get (s : ByteArray) (a : Nat) (hs : s.size ≤ 140737488351232) : (∃ N m : Nat, N < 18446744073709551616 ∧ getB (s.extract a s.size) = ((N : Int), (m : Int), true) ∧ uP s a = some (N, a + m)) ∨ (getB (s.extract a s.size) = (0, 0, false) ∧ uP s a = none) := by
  unfold uP
  rcases getB_form (s.extract a s.size) with ⟨N, m, hN, hg⟩ | hg
  · left; exact ⟨N, m, hN, hg, by rw [hg]; simp⟩
  · right; exact ⟨hg, by rw [hg]; simp⟩
theorem uP_le (s : ByteArray) (a N b : Nat) (ha : a ≤ s.size) (h : uP s a = some (N, b)) : N < 18446744073709551616 ∧ b ≤ s.size := by
  obtain ⟨h1, h2, h3⟩ := (uP_iff s a N b ha).1 h
  have := h3.1
  exact ⟨h1, by omega⟩
theorem Err_ok (s : ByteArray) (p e : Int) : V.scan_Scan_Err (s, p, e, true) = some (e, s, p, e, true) := by
  refine V.scan_Scan_Err.of _ ?_
  unfold F.scan_Scan_Err.B
  rfl
theorem fail_ok (s : ByteArray) (p e f : Int) : V.scan_Scan_fail (s, p, e, true) f = some (s, p, if e = 0 then f else e, true) := by
  refine V.scan_Scan_fail.of _ _ ?_
  unfold F.scan_Scan_fail.B
  dsimp only
  rw [Err_ok, Option.bind_some]
  by_cases h : e = 0 <;> simp [Bool.cond_eq_ite, h]
theorem Num_both (s : ByteArray) (hs : s.size ≤ 140737488351232) (a : Nat) (ha : a ≤ s.size) (most : Nat) (hm : most ≤ 100000) :
    (∃ n b, numP most s a = some (n, b) ∧ V.scan_Scan_Num (s, (a : Int), 0, true) (most : Int) = some ((n : Int), s, (b : Int), 0, true)) ∨
    (numP most s a = none ∧ ∃ e : Int, e ≠ 0 ∧ V.scan_Scan_Num (s, (a : Int), 0, true) (most : Int) = some (0, s, (a : Int), e, true)) := by
  have hx := extract_size s a s.size
  have B : ∀ {r}, F.scan_Scan_Num.B V.scan_Scan_Err V.varint_Get V.scan_Scan_fail (s, (a : Int), 0, true) (most : Int) = some r → V.scan_Scan_Num (s, (a : Int), 0, true) (most : Int) = some r := V.scan_Scan_Num.of _ _
  unfold F.scan_Scan_Num.B at B
  dsimp only at B
  rw [Err_ok, Option.bind_some] at B
  dsimp only at B
  rw [guard_of (by simp; omega), nat_cast, nat_cast, Get_ok _ (by omega), Option.bind_some] at B
  simp only [bne_self_eq_false, cond_false] at B
  unfold numP
  rcases uP_get s a hs with ⟨N, m, hN, hg, hu⟩ | ⟨hg, hu⟩
  · have hb := (uP_le s a N (a + m) ha hu).2
    rw [hg] at B
    rw [hu, Option.bind_some]
    dsimp only at B ⊢
    simp only [Bool.not_true, cond_false] at B
    rw [if_no (show ¬ (most : Int) < 0 by omega), u64_id (x := (most : Int)) (by omega) (by omega)] at B
    by_cases hle : N ≤ most
    · left
      refine ⟨N, a + m, by rw [if_pos hle], B ?_⟩
      rw [if_no (by omega), w64_id (by omega) (by omega), w64_id (by omega) (by omega)]
      rfl
    · right
      refine ⟨by rw [if_neg hle], 5, by omega, B ?_⟩
      rw [if_yes (by omega), fail_ok, Option.bind_some]
      rfl
  · right
    rw [hg] at B
    rw [hu]
    dsimp only at B ⊢
    refine ⟨rfl, 3, by omega, B ?_⟩
    rw [fail_ok, Option.bind_some]
    rfl
theorem take_err (s : ByteArray) (p e : Int) (he : e ≠ 0) (n : Int) : V.scan_Scan_take (s, p, e, true) n = some (⟨#[]⟩, s, p, e, true) := by
  refine V.scan_Scan_take.of _ _ ?_
  unfold F.scan_Scan_take.B
  dsimp only
  rw [Err_ok, Option.bind_some]
  simp [Bool.cond_eq_ite, he]
theorem take_both (s : ByteArray) (hs : s.size ≤ 140737488351232) (a : Nat) (ha : a ≤ s.size) (n : Nat) (hn : n ≤ 140737488351232) :
    (∃ t b, fixP n s a = some (t, b) ∧ V.scan_Scan_take (s, (a : Int), 0, true) (n : Int) = some (t, s, (b : Int), 0, true)) ∨
    (fixP n s a = none ∧ V.scan_Scan_take (s, (a : Int), 0, true) (n : Int) = some (⟨#[]⟩, s, (a : Int), 3, true)) := by
  have B : ∀ {r}, F.scan_Scan_take.B V.scan_Scan_Err (s, (a : Int), 0, true) (n : Int) = some r → V.scan_Scan_take (s, (a : Int), 0, true) (n : Int) = some r := V.scan_Scan_take.of _ _
  unfold F.scan_Scan_take.B at B
  dsimp only at B
  rw [Err_ok, Option.bind_some] at B
  dsimp only at B
  simp only [bne_self_eq_false, cond_false] at B
  rw [if_no (show ¬ (n : Int) < 0 by omega), w64_id (x := (s.size : Int) - (a : Int)) (by omega) (by omega), w64_id (x := (a : Int) + (n : Int)) (by omega) (by omega)] at B
  unfold fixP
  by_cases hle : a + n ≤ s.size
  · left
    refine ⟨s.extract a (a + n), a + n, by rw [if_pos hle], B ?_⟩
    rw [if_no (by omega), guard_of (by simp; omega)]
    rfl
  · right
    refine ⟨by rw [if_neg hle], B ?_⟩
    rw [if_yes (by omega)]
theorem numP_le {most : Nat} {s : ByteArray} {a n b : Nat} (ha : a ≤ s.size) (h : numP most s a = some (n, b)) : n ≤ most ∧ b ≤ s.size := by
  unfold numP at h
  obtain ⟨⟨M, c⟩, h1, h2⟩ := Option.bind_eq_some_iff.1 h
  split at h2
  · rename_i h3
    simp only [Option.some.injEq, Prod.mk.injEq] at h2
    obtain ⟨rfl, rfl⟩ := h2
    exact ⟨h3, (uP_le s a _ _ ha h1).2⟩
  · cases h2
theorem fixP_le {n : Nat} {s : ByteArray} {a : Nat} {t : ByteArray} {b : Nat} (h : fixP n s a = some (t, b)) : b ≤ s.size ∧ t.size = n := by
  obtain ⟨h1, h2, h3⟩ := (fixP_iff n s a t b).1 h
  have := h3.1
  exact ⟨by omega, h1⟩
theorem Text_both (s : ByteArray) (hs : s.size ≤ 140737488351232) (a : Nat) (ha : a ≤ s.size) (most : Nat) (hm : most ≤ 100000) :
    (∃ t b, textP most s a = some (t, b) ∧ b ≤ s.size ∧ t.size ≤ most ∧ V.scan_Scan_Text (s, (a : Int), 0, true) (most : Int) = some (t, s, (b : Int), 0, true)) ∨
    (textP most s a = none ∧ ∃ p e : Int, e ≠ 0 ∧ V.scan_Scan_Text (s, (a : Int), 0, true) (most : Int) = some (⟨#[]⟩, s, p, e, true)) := by
  have B : ∀ {r}, F.scan_Scan_Text.B V.scan_Scan_Num V.scan_Scan_take (s, (a : Int), 0, true) (most : Int) = some r → V.scan_Scan_Text (s, (a : Int), 0, true) (most : Int) = some r := V.scan_Scan_Text.of _ _
  unfold F.scan_Scan_Text.B at B
  dsimp only at B
  unfold textP
  rcases Num_both s hs a ha most hm with ⟨n, b, h1, h2⟩ | ⟨h1, e, he, h2⟩
  · obtain ⟨h3, h4⟩ := numP_le ha h1
    rw [h2, Option.bind_some] at B
    rw [h1, Option.bind_some]
    dsimp only at B ⊢
    rcases take_both s hs b h4 n (by omega) with ⟨t, c, g1, g2⟩ | ⟨g1, g2⟩
    · left
      have := fixP_le g1
      exact ⟨t, c, g1, this.1, by omega, B (by rw [g2, Option.bind_some])⟩
    · right
      exact ⟨g1, (b : Int), 3, by omega, B (by rw [g2, Option.bind_some])⟩
  · right
    rw [h2, Option.bind_some] at B
    rw [h1]
    refine ⟨rfl, (a : Int), e, he, B ?_⟩
    dsimp only
    rw [take_err s _ e he, Option.bind_some]
theorem bt_extract (s : ByteArray) (a : Nat) (h : a < s.size) : byteAt (s.extract a (a + 1)) 0 = byteAt s (a : Int) := by
  have hz : (s.extract a (a + 1)).size = 1 := by rw [ByteArray.size_extract]; omega
  have h1 := bt_data (s.extract a (a + 1)) 0 (by omega)
  rw [bt_data s a h]
  rw [show ((0 : Nat) : Int) = 0 from rfl] at h1
  rw [h1]
  simp only [extract_toList]
  rw [List.getElem_take, List.getElem_drop]
  simp
theorem Byte_both (s : ByteArray) (hs : s.size ≤ 140737488351232) (a : Nat) (ha : a ≤ s.size) :
    (a < s.size ∧ V.scan_Scan_Byte (s, (a : Int), 0, true) = some (byteAt s (a : Int), s, ((a + 1 : Nat) : Int), 0, true)) ∨
    (¬ a < s.size ∧ V.scan_Scan_Byte (s, (a : Int), 0, true) = some (0, s, (a : Int), 3, true)) := by
  have B : ∀ {r}, F.scan_Scan_Byte.B V.scan_Scan_take (s, (a : Int), 0, true) = some r → V.scan_Scan_Byte (s, (a : Int), 0, true) = some r := V.scan_Scan_Byte.of _
  unfold F.scan_Scan_Byte.B at B
  dsimp only at B
  rcases take_both s hs a ha 1 (by omega) with ⟨t, b, h1, h2⟩ | ⟨h1, h2⟩
  · left
    obtain ⟨g1, g2, g3⟩ := (fixP_iff 1 s a t b).1 h1
    have h3 := g3.1
    have h4 := g3.2
    rw [g1] at h3 h4
    have hr := bt_range s (a : Int)
    rw [show (1 : Int) = ((1 : Nat) : Int) from rfl, h2, Option.bind_some] at B
    refine ⟨by omega, B ?_⟩
    dsimp only
    have e0 : byteAt t 0 = byteAt s (a : Int) := by rw [← h4]; exact bt_extract s a (by omega)
    rw [strEq_nil, show (t.size == 0) = false by simp [g1], cond_false, guard_dec (by omega), e0, w64_id (by omega) (by omega), g2]
  · right
    have : ¬ a + 1 ≤ s.size := by
      intro hle
      unfold fixP at h1
      rw [if_pos hle] at h1
      cases h1
    rw [show (1 : Int) = ((1 : Nat) : Int) from rfl, h2, Option.bind_some] at B
    refine ⟨by omega, B ?_⟩
    dsimp only
    rw [strEq_self]
    rfl
/-- It leads back from a number's place among 0, -1, 1, -2, 2. -/
def zag (n : Nat) : Int := if n % 2 = 0 then ((n / 2 : Nat) : Int) else -((n / 2 : Nat) : Int) - 1
theorem xor_i0 (n : Nat) (h : n < 9223372036854775808) : w64 ((BitVec.ofInt 64 (n : Int) ^^^ BitVec.ofInt 64 0).toNat : Int) = (n : Int) := by
  have e2 : (BitVec.ofInt 64 (n : Int) ^^^ BitVec.ofInt 64 0).toNat = n := by
    have : BitVec.ofInt 64 0 = 0#64 := rfl
    rw [this, BitVec.xor_zero, BitVec.toNat_ofInt]
    omega
  rw [e2, w64_id (by omega) (by omega)]
theorem w64_mod (x : Int) : w64 x = (x + 9223372036854775808) % 18446744073709551616 - 9223372036854775808 := by
  show IntKind.i64.wrap x = _
  rw [Go.IntKind.wrap_i64]
theorem xor_i1 (n : Nat) (h : n < 9223372036854775808) : w64 ((BitVec.ofInt 64 (n : Int) ^^^ BitVec.ofInt 64 (-1)).toNat : Int) = -(n : Int) - 1 := by
  have : BitVec.ofInt 64 (-1) = BitVec.allOnes 64 := by decide
  rw [this, BitVec.xor_allOnes, BitVec.toNat_not, BitVec.toNat_ofInt, w64_mod]
  omega
theorem Zag_ok (n : Nat) (h : n < 18446744073709551616) : V.varint_Zag (n : Int) = some (zag n) := by
  have e1 : IntKind.wrap .u64 ((BitVec.ofInt 64 (n : Int) &&& BitVec.ofInt 64 1).toNat : Int) = ((n % 2 : Nat) : Int) := by
    have := Go.bits_mask .u64 64 (by decide) wraps_u64 1 (by omega) (n : Int) (by omega) (by omega)
    rw [show ((2 : Int) ^ 1 - 1) = 1 from rfl] at this
    refine this.trans ?_
    omega
  refine V.varint_Zag.of _ ?_
  unfold F.varint_Zag.B zag
  have e2 : Int.fdiv (n : Int) (2 ^ 1) = ((n / 2 : Nat) : Int) := by rw [Int.fdiv_eq_ediv_of_nonneg _ (by decide)]; rfl
  rw [e1, e2, w64_id (x := ((n / 2 : Nat) : Int)) (by omega) (by omega), w64_id (x := ((n % 2 : Nat) : Int)) (by omega) (by omega), w64_id (x := 0 - ((n % 2 : Nat) : Int)) (by omega) (by omega)]
  split
  · rename_i h0
    rw [h0, show (0 - ((0 : Nat) : Int)) = 0 from rfl, xor_i0 _ (by omega)]
  · rename_i h0
    rw [show n % 2 = 1 by omega, show (0 - ((1 : Nat) : Int)) = -1 from rfl, xor_i1 _ (by omega)]
theorem refZag_ok (n : Nat) (h : n < 18446744073709551616) : V.pleachref01_Zag (n : Int) = some (zag n) := by
  refine V.pleachref01_Zag.of _ ?_
  unfold F.pleachref01_Zag.B zag
  rw [Int.tmod_eq_emod_of_nonneg (by omega), Int.tdiv_eq_ediv_of_nonneg (by omega), show (n : Int) / 2 = ((n / 2 : Nat) : Int) by omega, u64_id (by omega) (by omega), w64_id (x := ((n / 2 : Nat) : Int)) (by omega) (by omega)]
  by_cases h0 : n % 2 = 0
  · rw [show ((n : Int) % 2 == 0) = true by simp; omega, cond_true, if_pos h0]
  · rw [show ((n : Int) % 2 == 0) = false by simp; omega, cond_false, if_neg h0, w64_id (by omega) (by omega)]
    congr 1
    omega
def intP (s : ByteArray) (a : Nat) : Option (Int × Nat) := (uP s a).bind fun x => some (zag x.1, x.2)
theorem Int_both (s : ByteArray) (hs : s.size ≤ 140737488351232) (a : Nat) (ha : a ≤ s.size) :
    (∃ y b, intP s a = some (y, b) ∧ b ≤ s.size ∧ V.scan_Scan_Int (s, (a : Int), 0, true) = some (y, s, (b : Int), 0, true)) ∨
    (intP s a = none ∧ ∃ e : Int, e ≠ 0 ∧ V.scan_Scan_Int (s, (a : Int), 0, true) = some (0, s, (a : Int), e, true)) := by
  have hx := extract_size s a s.size
  have G : ∀ {r}, F.varint_GetInt.B V.varint_Get V.varint_Zag (s.extract a s.size) = some r → V.varint_GetInt (s.extract a s.size) = some r := V.varint_GetInt.of _
  unfold F.varint_GetInt.B at G
  rw [Get_ok _ (by omega), Option.bind_some] at G
  have B : ∀ {r}, F.scan_Scan_Int.B V.scan_Scan_Err V.varint_GetInt V.scan_Scan_fail (s, (a : Int), 0, true) = some r → V.scan_Scan_Int (s, (a : Int), 0, true) = some r := V.scan_Scan_Int.of _
  unfold F.scan_Scan_Int.B at B
  dsimp only at B
  rw [Err_ok, Option.bind_some] at B
  dsimp only at B
  rw [guard_of (by simp; omega), nat_cast, nat_cast] at B
  simp only [bne_self_eq_false, cond_false] at B
  unfold intP
  rcases uP_get s a hs with ⟨N, m, hN, hg, hu⟩ | ⟨hg, hu⟩
  · have hb := (uP_le s a N (a + m) ha hu).2
    left
    rw [hg] at G
    refine ⟨zag N, a + m, by rw [hu]; rfl, hb, B ?_⟩
    rw [G (r := (zag N, (m : Int), true)) (by dsimp only; rw [Zag_ok N hN, Option.bind_some]), Option.bind_some]
    dsimp only
    rw [w64_id (by omega) (by omega)]
    rfl
  · right
    rw [hg] at G
    refine ⟨by rw [hu]; rfl, 3, by omega, B ?_⟩
    have hz : V.varint_Zag 0 = some (zag 0) := Zag_ok 0 (by omega)
    rw [G (r := (zag 0, 0, false)) (by dsimp only; rw [hz, Option.bind_some]), Option.bind_some]
    dsimp only
    rw [fail_ok, Option.bind_some]
    rfl
/-- The value whose bytes stand at a place, and the place behind it. -/
def valueP (s : ByteArray) (a : Nat) : Option (TValue × Nat) :=
  if a < s.size then
    if byteAt s (a : Int) = 1 then
      if a + 1 < s.size then (if valueB (1, byteAt s ((a + 1 : Nat) : Int), ⟨#[]⟩) = true then some ((1, byteAt s ((a + 1 : Nat) : Int), ⟨#[]⟩), a + 2) else none) else none
    else if byteAt s (a : Int) = 2 then (intP s (a + 1)).bind fun x => some ((2, x.1, ⟨#[]⟩), x.2)
    else if byteAt s (a : Int) = 3 then (textP 64 s (a + 1)).bind fun x => some ((3, 0, x.1), x.2)
    else none
  else none
theorem Fail_ok (s : ByteArray) (p : Int) : V.scan_Scan_Fail (s, p, 0, true) 3 = some (s, p, 3, true) := by
  refine V.scan_Scan_Fail.of _ _ ?_
  unfold F.scan_Scan_Fail.B
  dsimp only
  rw [fail_ok, Option.bind_some]
  rfl
/-- What value.Read does with what it has read. -/
theorem Read_end (s : ByteArray) (p e : Int) (v : TValue) : ((V.scan_Scan_Err (s, p, e, true)).bind fun t => (bif (t.1 != 0) then (some (((0, 0, (⟨#[]⟩ : ByteArray)) : TValue), t.2.1, t.2.2.1, t.2.2.2.1, t.2.2.2.2)) else ((V.value_Check v).bind fun u => (bif (u != 0) then ((V.scan_Scan_Fail (t.2.1, t.2.2.1, t.2.2.2.1, t.2.2.2.2) 3).bind fun z => (some ((0, 0, (⟨#[]⟩ : ByteArray)), z.1, z.2.1, z.2.2.1, z.2.2.2))) else (some (v, t.2.1, t.2.2.1, t.2.2.2.1, t.2.2.2.2)))))) =
    if e = 0 then (if valueB v = true then some (v, s, p, 0, true) else some ((0, 0, ⟨#[]⟩), s, p, 3, true)) else some ((0, 0, ⟨#[]⟩), s, p, e, true) := by
  rw [Err_ok, Option.bind_some]
  dsimp only
  by_cases h : e = 0
  · subst h
    rw [value_Check_ok, Option.bind_some, Fail_ok]
    cases valueB v <;> simp
  · simp [Bool.cond_eq_ite, h]
theorem Read_both (s : ByteArray) (hs : s.size ≤ 140737488351232) (a : Nat) (ha : a ≤ s.size) :
    (∃ v b, valueP s a = some (v, b) ∧ b ≤ s.size ∧ V.value_Read (s, (a : Int), 0, true) = some (v, s, (b : Int), 0, true)) ∨
    (valueP s a = none ∧ ∃ p e : Int, e ≠ 0 ∧ V.value_Read (s, (a : Int), 0, true) = some ((0, 0, ⟨#[]⟩), s, p, e, true)) := by
  have B : ∀ {r}, F.value_Read.B V.scan_Scan_Byte V.scan_Scan_Err V.value_Check V.scan_Scan_Fail V.scan_Scan_Int V.scan_Scan_Text (s, (a : Int), 0, true) = some r → V.value_Read (s, (a : Int), 0, true) = some r := V.value_Read.of _
  unfold F.value_Read.B at B
  dsimp only at B
  unfold valueP
  rcases Byte_both s hs a ha with ⟨h1, h2⟩ | ⟨h1, h2⟩
  · rw [if_pos h1]
    rw [h2, Option.bind_some] at B
    dsimp only at B
    by_cases c1 : byteAt s (a : Int) = 1
    · rw [if_pos c1]
      rw [c1] at B
      simp only [Int.reduceBEq, cond_true] at B
      rcases Byte_both s hs (a + 1) (by omega) with ⟨g1, g2⟩ | ⟨g1, g2⟩
      · rw [if_pos g1]
        rw [g2, Option.bind_some] at B
        dsimp only at B
        have E := Read_end s ((a + 1 + 1 : Nat) : Int) 0 (1, byteAt s ((a + 1 : Nat) : Int), ⟨#[]⟩)
        rw [if_pos rfl] at E
        by_cases hv : valueB (1, byteAt s ((a + 1 : Nat) : Int), ⟨#[]⟩) = true
        · left; exact ⟨_, a + 2, by rw [if_pos hv], by omega, B (E.trans (by rw [if_pos hv]))⟩
        · right; exact ⟨by rw [if_neg hv], _, 3, by omega, B (E.trans (by rw [if_neg hv]))⟩
      · right
        rw [if_neg g1]
        rw [g2, Option.bind_some] at B
        dsimp only at B
        exact ⟨by first | rfl | trivial, _, 3, by omega, B ((Read_end s _ 3 _).trans (by rw [if_neg (by omega)]))⟩
    · rw [if_neg c1]
      rw [show (byteAt s (a : Int) == 1) = false by simp [c1], cond_false] at B
      by_cases c2 : byteAt s (a : Int) = 2
      · rw [if_pos c2]
        rw [c2] at B
        simp only [Int.reduceBEq, cond_true] at B
        rcases Int_both s hs (a + 1) (by omega) with ⟨y, b, g1, g2, g3⟩ | ⟨g1, e, he, g3⟩
        · left
          rw [g3, Option.bind_some] at B
          dsimp only at B
          rw [g1, Option.bind_some]
          exact ⟨(2, y, ⟨#[]⟩), b, rfl, g2, B ((Read_end s _ 0 _).trans (by rw [if_pos rfl, if_pos (by simp [valueB, ByteArray.size])]))⟩
        · right
          rw [g3, Option.bind_some] at B
          dsimp only at B
          rw [g1]
          exact ⟨by first | rfl | trivial, _, e, he, B ((Read_end s _ e _).trans (by rw [if_neg he]))⟩
      · rw [if_neg c2]
        rw [show (byteAt s (a : Int) == 2) = false by simp [c2], cond_false] at B
        by_cases c3 : byteAt s (a : Int) = 3
        · rw [if_pos c3]
          rw [c3] at B
          simp only [Int.reduceBEq, cond_true] at B
          rcases Text_both s hs (a + 1) (by omega) 64 (by omega) with ⟨t, b, g1, g2, g3, g4⟩ | ⟨g1, p, e, he, g3⟩
          · left
            rw [show (64 : Int) = ((64 : Nat) : Int) from rfl, g4, Option.bind_some] at B
            dsimp only at B
            rw [g1, Option.bind_some]
            exact ⟨(3, 0, t), b, rfl, g2, B ((Read_end s _ 0 _).trans (by rw [if_pos rfl, if_pos (by simp [valueB, g3])]))⟩
          · right
            rw [show (64 : Int) = ((64 : Nat) : Int) from rfl, g3, Option.bind_some] at B
            dsimp only at B
            rw [g1]
            exact ⟨by first | rfl | trivial, _, e, he, B ((Read_end s _ e _).trans (by rw [if_neg he]))⟩
        · rw [if_neg c3]
          rw [show (byteAt s (a : Int) == 3) = false by simp [c3], cond_false] at B
          right
          refine ⟨by first | rfl | trivial, ((a + 1 : Nat) : Int), 3, by omega, B ((Read_end s _ 0 _).trans ?_)⟩
          rw [if_pos rfl, if_neg (by simp [valueB, c1, c2, c3])]
  · right
    rw [if_neg h1]
    rw [h2, Option.bind_some] at B
    dsimp only at B
    simp only [Int.reduceBEq, cond_false] at B
    exact ⟨by first | rfl | trivial, _, 3, by omega, B ((Read_end s _ 3 _).trans (by rw [if_neg (by omega)]))⟩
end Go.Proofs.YthnhkaaodghpgaaDoor.AE
end
section
set_option linter.unusedVariables false
set_option linter.unusedSimpArgs false
set_option maxRecDepth 4000
namespace Go.Proofs.YthnhkaaodghpgaaDoor.AE
open Go

theorem bne_ne {e : Int} (he : e ≠ 0) : (e != 0) = true := by simp [he]
theorem rNum_both (s : ByteArray) (hs : s.size ≤ 140737488351232) (a : Nat) (ha : a ≤ s.size) (most : Nat) (hm : most ≤ 100000) :
    (∃ n b, numP most s a = some (n, b) ∧ V.pleachref04_Num (s, (a : Int), 0) (most : Int) = some ((s, (b : Int), 0), (n : Int))) ∨
    (numP most s a = none ∧ ∃ e : Int, e ≠ 0 ∧ V.pleachref04_Num (s, (a : Int), 0) (most : Int) = some ((s, (a : Int), e), 0)) := by
  have hx := extract_size s a s.size
  have B : ∀ {r}, F.pleachref04_Num.B V.pleachref01_Get (s, (a : Int), 0) (most : Int) = some r → V.pleachref04_Num (s, (a : Int), 0) (most : Int) = some r := V.pleachref04_Num.of _ _
  unfold F.pleachref04_Num.B at B
  dsimp only at B
  rw [guard_of (by simp; omega), nat_cast, nat_cast, refGet_ok _ (by omega), Option.bind_some] at B
  simp only [bne_self_eq_false, cond_false] at B
  unfold numP
  rcases uP_get s a hs with ⟨N, m, hN, hg, hu⟩ | ⟨hg, hu⟩
  · have hb := (uP_le s a N (a + m) ha hu).2
    rw [hg] at B
    rw [hu, Option.bind_some]
    dsimp only at B ⊢
    simp only [Bool.not_true, cond_false] at B
    rw [if_no (show ¬ (most : Int) < 0 by omega), u64_id (x := (most : Int)) (by omega) (by omega)] at B
    by_cases hle : N ≤ most
    · left
      refine ⟨N, a + m, by rw [if_pos hle], B ?_⟩
      rw [if_no (by omega), w64_id (by omega) (by omega), w64_id (by omega) (by omega)]
      rfl
    · right
      refine ⟨by rw [if_neg hle], 5, by omega, B ?_⟩
      rw [if_yes (by omega)]
  · right
    rw [hg] at B
    rw [hu]
    dsimp only at B ⊢
    exact ⟨rfl, 3, by omega, B rfl⟩
theorem rfix_both (s : ByteArray) (hs : s.size ≤ 140737488351232) (a : Nat) (ha : a ≤ s.size) (n : Nat) (hn : n ≤ 140737488351232) :
    (∃ t b, fixP n s a = some (t, b) ∧ V.pleachref04_fix (s, (a : Int), 0) (n : Int) = some ((s, (b : Int), 0), t)) ∨
    (fixP n s a = none ∧ V.pleachref04_fix (s, (a : Int), 0) (n : Int) = some ((s, (a : Int), 3), ⟨#[]⟩)) := by
  have B : ∀ {r}, F.pleachref04_fix.B (s, (a : Int), 0) (n : Int) = some r → V.pleachref04_fix (s, (a : Int), 0) (n : Int) = some r := V.pleachref04_fix.of _ _
  unfold F.pleachref04_fix.B at B
  dsimp only at B
  simp only [bne_self_eq_false, cond_false] at B
  rw [if_no (show ¬ (n : Int) < 0 by omega), w64_id (x := (s.size : Int) - (a : Int)) (by omega) (by omega), w64_id (x := (a : Int) + (n : Int)) (by omega) (by omega)] at B
  unfold fixP
  by_cases hle : a + n ≤ s.size
  · left
    refine ⟨s.extract a (a + n), a + n, by rw [if_pos hle], B ?_⟩
    rw [if_no (by omega), guard_of (by simp; omega)]
    rfl
  · right
    refine ⟨by rw [if_neg hle], B ?_⟩
    rw [if_yes (by omega)]
theorem rText_both (s : ByteArray) (hs : s.size ≤ 140737488351232) (a : Nat) (ha : a ≤ s.size) (most : Nat) (hm : most ≤ 100000) :
    (∃ t b, textP most s a = some (t, b) ∧ b ≤ s.size ∧ t.size ≤ most ∧ V.pleachref04_Text (s, (a : Int), 0) (most : Int) = some ((s, (b : Int), 0), t)) ∨
    (textP most s a = none ∧ ∃ p e : Int, e ≠ 0 ∧ V.pleachref04_Text (s, (a : Int), 0) (most : Int) = some ((s, p, e), ⟨#[]⟩)) := by
  have B : ∀ {r}, F.pleachref04_Text.B V.pleachref04_Num V.pleachref04_fix (s, (a : Int), 0) (most : Int) = some r → V.pleachref04_Text (s, (a : Int), 0) (most : Int) = some r := V.pleachref04_Text.of _ _
  unfold F.pleachref04_Text.B at B
  dsimp only at B
  unfold textP
  rcases rNum_both s hs a ha most hm with ⟨n, b, h1, h2⟩ | ⟨h1, e, he, h2⟩
  · obtain ⟨h3, h4⟩ := numP_le ha h1
    rw [h2, Option.bind_some] at B
    rw [h1, Option.bind_some]
    dsimp only at B ⊢
    simp only [bne_self_eq_false, cond_false] at B
    rcases rfix_both s hs b h4 n (by omega) with ⟨t, c, g1, g2⟩ | ⟨g1, g2⟩
    · left
      have := fixP_le g1
      exact ⟨t, c, g1, this.1, by omega, B (by rw [g2, Option.bind_some])⟩
    · right
      exact ⟨g1, (b : Int), 3, by omega, B (by rw [g2, Option.bind_some])⟩
  · right
    rw [h2, Option.bind_some] at B
    rw [h1]
    refine ⟨rfl, (a : Int), e, he, B ?_⟩
    dsimp only
    rw [bne_ne he, cond_true]
theorem rByte_both (s : ByteArray) (hs : s.size ≤ 140737488351232) (a : Nat) (ha : a ≤ s.size) :
    (a < s.size ∧ V.pleachref04_Byte (s, (a : Int), 0) = some ((s, ((a + 1 : Nat) : Int), 0), byteAt s (a : Int))) ∨
    (¬ a < s.size ∧ V.pleachref04_Byte (s, (a : Int), 0) = some ((s, (a : Int), 3), 0)) := by
  have B : ∀ {r}, F.pleachref04_Byte.B V.pleachref04_fix (s, (a : Int), 0) = some r → V.pleachref04_Byte (s, (a : Int), 0) = some r := V.pleachref04_Byte.of _
  unfold F.pleachref04_Byte.B at B
  dsimp only at B
  rcases rfix_both s hs a ha 1 (by omega) with ⟨t, b, h1, h2⟩ | ⟨h1, h2⟩
  · left
    obtain ⟨g1, g2, g3⟩ := (fixP_iff 1 s a t b).1 h1
    have h3 := g3.1
    have h4 := g3.2
    rw [g1] at h3 h4
    have hr := bt_range s (a : Int)
    rw [show (1 : Int) = ((1 : Nat) : Int) from rfl, h2, Option.bind_some] at B
    refine ⟨by omega, B ?_⟩
    have e0 : byteAt t 0 = byteAt s (a : Int) := by rw [← h4]; exact bt_extract s a (by omega)
    simp only [bne_self_eq_false, cond_false]
    rw [guard_dec (by omega), e0, w64_id (by omega) (by omega), g2]
  · right
    have : ¬ a + 1 ≤ s.size := by
      intro hle
      unfold fixP at h1
      rw [if_pos hle] at h1
      cases h1
    rw [show (1 : Int) = ((1 : Nat) : Int) from rfl, h2, Option.bind_some] at B
    exact ⟨by omega, B rfl⟩
theorem rInt_both (s : ByteArray) (hs : s.size ≤ 140737488351232) (a : Nat) (ha : a ≤ s.size) :
    (∃ y b, intP s a = some (y, b) ∧ b ≤ s.size ∧ V.pleachref04_Int (s, (a : Int), 0) = some ((s, (b : Int), 0), y)) ∨
    (intP s a = none ∧ ∃ e : Int, e ≠ 0 ∧ V.pleachref04_Int (s, (a : Int), 0) = some ((s, (a : Int), e), 0)) := by
  have hx := extract_size s a s.size
  have B : ∀ {r}, F.pleachref04_Int.B V.pleachref01_Get V.pleachref01_Zag (s, (a : Int), 0) = some r → V.pleachref04_Int (s, (a : Int), 0) = some r := V.pleachref04_Int.of _
  unfold F.pleachref04_Int.B at B
  dsimp only at B
  rw [guard_of (by simp; omega), nat_cast, nat_cast, refGet_ok _ (by omega), Option.bind_some] at B
  simp only [bne_self_eq_false, cond_false] at B
  unfold intP
  rcases uP_get s a hs with ⟨N, m, hN, hg, hu⟩ | ⟨hg, hu⟩
  · have hb := (uP_le s a N (a + m) ha hu).2
    left
    rw [hg] at B
    refine ⟨zag N, a + m, by rw [hu]; rfl, hb, B ?_⟩
    dsimp only
    simp only [Bool.not_true, cond_false]
    rw [refZag_ok N hN, Option.bind_some, w64_id (by omega) (by omega)]
    rfl
  · right
    rw [hg] at B
    exact ⟨by rw [hu]; rfl, 3, by omega, B rfl⟩
theorem rRead_end (s : ByteArray) (p e : Int) (k y : Int) (t : ByteArray) : (bif (e == 0) then ((V.pleachref06_Is (k, y, t)).bind fun u => (bif (!u) then (some (((s, p, 3), 0, 0, (⟨#[]⟩ : ByteArray)) : TScan × TValue)) else (bif (e != 0) then (some ((s, p, e), 0, 0, (⟨#[]⟩ : ByteArray))) else (some ((s, p, e), k, y, t))))) else (bif (e != 0) then (some ((s, p, e), 0, 0, (⟨#[]⟩ : ByteArray))) else (some ((s, p, e), k, y, t)))) =
    if e = 0 then (if valueB (k, y, t) = true then some ((s, p, 0), k, y, t) else some ((s, p, 3), 0, 0, ⟨#[]⟩)) else some ((s, p, e), 0, 0, ⟨#[]⟩) := by
  by_cases h : e = 0
  · subst h
    rw [refVIs_ok, Option.bind_some]
    cases valueB (k, y, t) <;> simp
  · simp [Bool.cond_eq_ite, h]
theorem rRead_both (s : ByteArray) (hs : s.size ≤ 140737488351232) (a : Nat) (ha : a ≤ s.size) :
    (∃ v b, valueP s a = some (v, b) ∧ b ≤ s.size ∧ V.pleachref06_Read (s, (a : Int), 0) = some ((s, (b : Int), 0), v)) ∨
    (valueP s a = none ∧ ∃ p e : Int, e ≠ 0 ∧ V.pleachref06_Read (s, (a : Int), 0) = some ((s, p, e), 0, 0, ⟨#[]⟩)) := by
  have B : ∀ {r}, F.pleachref06_Read.B V.pleachref04_Byte V.pleachref04_Int V.pleachref04_Text V.pleachref06_Is (s, (a : Int), 0) = some r → V.pleachref06_Read (s, (a : Int), 0) = some r := V.pleachref06_Read.of _
  unfold F.pleachref06_Read.B at B
  dsimp only at B
  unfold valueP
  rcases rByte_both s hs a ha with ⟨h1, h2⟩ | ⟨h1, h2⟩
  · rw [if_pos h1]
    rw [h2, Option.bind_some] at B
    dsimp only at B
    by_cases c1 : byteAt s (a : Int) = 1
    · rw [if_pos c1]
      rw [c1] at B
      simp only [Int.reduceBEq, cond_true, cond_false] at B
      rcases rByte_both s hs (a + 1) (by omega) with ⟨g1, g2⟩ | ⟨g1, g2⟩
      · rw [if_pos g1]
        rw [g2, Option.bind_some] at B
        dsimp only at B
        have E := rRead_end s ((a + 1 + 1 : Nat) : Int) 0 1 (byteAt s ((a + 1 : Nat) : Int)) ⟨#[]⟩
        rw [if_pos rfl] at E
        by_cases hv : valueB (1, byteAt s ((a + 1 : Nat) : Int), ⟨#[]⟩) = true
        · left; exact ⟨_, a + 2, by rw [if_pos hv], by omega, B (E.trans (by rw [if_pos hv]))⟩
        · right; exact ⟨by rw [if_neg hv], _, 3, by omega, B (E.trans (by rw [if_neg hv]))⟩
      · right
        rw [if_neg g1]
        rw [g2, Option.bind_some] at B
        dsimp only at B
        exact ⟨by first | rfl | trivial, _, 3, by omega, B ((rRead_end s _ 3 _ _ _).trans (by rw [if_neg (by omega)]))⟩
    · rw [if_neg c1]
      rw [show (byteAt s (a : Int) == 1) = false by simp [c1], cond_false] at B
      by_cases c2 : byteAt s (a : Int) = 2
      · rw [if_pos c2]
        rw [c2] at B
        simp only [Int.reduceBEq, cond_true, cond_false] at B
        rcases rInt_both s hs (a + 1) (by omega) with ⟨y, b, g1, g2, g3⟩ | ⟨g1, e, he, g3⟩
        · left
          rw [g3, Option.bind_some] at B
          dsimp only at B
          rw [g1, Option.bind_some]
          exact ⟨(2, y, ⟨#[]⟩), b, rfl, g2, B ((rRead_end s _ 0 _ _ _).trans (by rw [if_pos rfl, if_pos (by simp [valueB, ByteArray.size])]))⟩
        · right
          rw [g3, Option.bind_some] at B
          dsimp only at B
          rw [g1]
          exact ⟨by first | rfl | trivial, _, e, he, B ((rRead_end s _ e _ _ _).trans (by rw [if_neg he]))⟩
      · rw [if_neg c2]
        rw [show (byteAt s (a : Int) == 2) = false by simp [c2], cond_false] at B
        by_cases c3 : byteAt s (a : Int) = 3
        · rw [if_pos c3]
          rw [c3] at B
          simp only [Int.reduceBEq, cond_true, cond_false] at B
          rcases rText_both s hs (a + 1) (by omega) 64 (by omega) with ⟨t, b, g1, g2, g3, g4⟩ | ⟨g1, p, e, he, g3⟩
          · left
            rw [show (64 : Int) = ((64 : Nat) : Int) from rfl, g4, Option.bind_some] at B
            dsimp only at B
            rw [g1, Option.bind_some]
            exact ⟨(3, 0, t), b, rfl, g2, B ((rRead_end s _ 0 _ _ _).trans (by rw [if_pos rfl, if_pos (by simp [valueB, g3])]))⟩
          · right
            rw [show (64 : Int) = ((64 : Nat) : Int) from rfl, g3, Option.bind_some] at B
            dsimp only at B
            rw [g1]
            exact ⟨by first | rfl | trivial, _, e, he, B ((rRead_end s _ e _ _ _).trans (by rw [if_neg he]))⟩
        · rw [if_neg c3]
          rw [show (byteAt s (a : Int) == 3) = false by simp [c3], cond_false] at B
          right
          refine ⟨by first | rfl | trivial, ((a + 1 : Nat) : Int), 3, by omega, B ((rRead_end s _ 0 _ _ _).trans ?_)⟩
          rw [if_pos rfl, if_neg (by simp [valueB, c1, c2, c3])]
  · right
    rw [if_neg h1]
    rw [h2, Option.bind_some] at B
    dsimp only at B
    simp only [Int.reduceBEq, cond_true, cond_false] at B
    exact ⟨by first | rfl | trivial, _, 3, by omega, B rfl⟩
end Go.Proofs.YthnhkaaodghpgaaDoor.AE
end
section
set_option linter.unusedVariables false
set_option linter.unusedSimpArgs false
set_option maxRecDepth 4000
namespace Go.Proofs.YthnhkaaodghpgaaDoor.AE
open Go

/-! rows of texts, of properties -/
end Go.Proofs.YthnhkaaodghpgaaDoor.AE
end
section
set_option linter.unusedVariables false
set_option linter.unusedSimpArgs false
namespace Go.Proofs.YthnhkaaodghpgaaDoor.AE
open Go

abbrev hexD : ByteArray := ⟨#[48, 49, 50, 51, 52, 53, 54, 55, 56, 57, 97, 98, 99, 100, 101, 102]⟩
def hexL (s : ByteArray) : Nat → Nat → List Int
  | 0, _ => []
  | d + 1, i => byteAt hexD (byteAt s (i : Int) / 16) :: byteAt hexD (byteAt s (i : Int) % 16) :: hexL s d (i + 1)
def hexB (s : ByteArray) : ByteArray := bytesOf (hexL s s.size 0)
theorem hexL_len (s : ByteArray) : ∀ d i, (hexL s d i).length = 2 * d
  | 0, i => rfl
  | d + 1, i => by simp only [hexL, List.length_cons, hexL_len s d (i + 1)]; omega
theorem hexB_size (s : ByteArray) : (hexB s).size = 2 * s.size := by unfold hexB; rw [strOfNums_size, hexL_len]

theorem byte_fin {p : Int → Prop} (h : ∀ c : Fin 256, p (c.val : Int)) {c : Int} (h0 : 0 ≤ c) (h1 : c < 256) : p c := by
  obtain ⟨n, rfl⟩ := Int.eq_ofNat_of_zero_le h0
  exact h ⟨n, by omega⟩
theorem and15 {c : Int} (h0 : 0 ≤ c) (h1 : c < 256) : IntKind.wrap .u8 ((BitVec.ofInt 8 c &&& BitVec.ofInt 8 15).toNat : Int) = c % 16 :=
  byte_fin (p := fun c => IntKind.wrap .u8 ((BitVec.ofInt 8 c &&& BitVec.ofInt 8 15).toNat : Int) = c % 16) (by decide +kernel) h0 h1
theorem fdiv16 {c : Int} (h0 : 0 ≤ c) (h1 : c < 256) : Int.fdiv c (2 ^ 4) = c / 16 :=
  byte_fin (p := fun c => Int.fdiv c (2 ^ 4) = c / 16) (by decide +kernel) h0 h1
theorem hexD_size : ((hexD.size : Nat) : Int) = 16 := rfl
theorem sha_Hex_l (s : ByteArray) (hs : s.size ≤ 1000000) : ∀ (d i : Nat) (x : List Int), i + d = s.size → x.length ≤ 2 * i → V.sha_Hex.l11010 s (i : Int) x = some (bytesOf (x ++ hexL s d i))
  | 0, i, x, h, hx => by
    apply V.sha_Hex.l11010.of; unfold F.sha_Hex.l11010.B
    rw [if_out (by omega)]
    simp [hexL]
  | d + 1, i, x, h, hx => by
    obtain ⟨b0, b1⟩ := bt_range s (i : Int)
    apply V.sha_Hex.l11010.of; unfold F.sha_Hex.l11010.B
    rw [if_in (by omega), guard_in (by omega), fdiv16 b0 b1, and15 b0 b1, hexD_size]
    rw [guard_of (by simp only [Bool.and_eq_true, decide_eq_true_eq]; omega), guard_in (by omega), guard_of (by simp only [Bool.and_eq_true, decide_eq_true_eq]; omega)]
    rw [guard_dec (by simp only [List.length_cons, List.length_nil, nmax]; omega), w64_up (n := s.size) (by omega) (by omega)]
    rw [sha_Hex_l s hs d (i + 1) _ (by omega) (by simp only [List.length_append, List.length_cons, List.length_nil]; omega)]
    simp only [hexL, List.append_assoc, List.cons_append, List.nil_append]
theorem sha_Hex_ok (s : ByteArray) (hs : s.size ≤ 1000000) : V.sha_Hex s = some (hexB s) := by
  apply V.sha_Hex.of; unfold F.sha_Hex.B
  rw [w64_id (by omega) (by omega), guard_of (by simp only [Bool.and_eq_true, decide_eq_true_eq]; omega)]
  have := sha_Hex_l s hs s.size 0 [] (by omega) (by simp)
  exact this

/-! ### Decimal digits -/
/-! ### Plain texts -/
def badI (c : Int) : Bool := !(((((decide (c ≥ 97) && decide (c ≤ 122)) || (decide (c ≥ 65) && decide (c ≤ 90))) || (decide (c ≥ 48) && decide (c ≤ 57))) || c == 45) || c == 46 || c == 95)
def okF (s : ByteArray) : Nat → Nat → Bool
  | 0, _ => true
  | d + 1, i => bif badI (byteAt s (i : Int)) then false else okF s d (i + 1)
def plainB (s : ByteArray) : Bool := okF s s.size 0
theorem decode_low {s : ByteArray} {i : Nat} (h : (s.get! i).toNat < 128) : Utf8.decode s i = ((s.get! i).toNat, 1) := by
  unfold Utf8.decode
  simp only [Nat.add_zero]
  rw [if_pos h]
theorem decode_high {s : ByteArray} {i : Nat} (h : 128 ≤ (s.get! i).toNat) : 128 ≤ (Utf8.decode s i).1 := by
  unfold Utf8.decode
  simp only [Nat.add_zero, Utf8.runeError]
  rw [if_neg (by omega)]
  repeat' split
  all_goals first | omega | (rename_i h1; simp only [Bool.and_eq_true, decide_eq_true_eq, ge_iff_le] at h1; omega) | (simp only [ge_iff_le] at *; omega)
theorem bt_get {s : ByteArray} {i : Nat} (h : i < s.size) : byteAt s (i : Int) = ((s.get! i).toNat : Int) := by
  rw [bt_data s i h]
  congr 1
  cases s with
  | mk a => 
    have h' : i < a.size := h
    simp [ByteArray.get!, getElem!_pos, h']
theorem badR_of (n : Nat) : badR n = badI (n : Int) := by
  unfold badR badI
  rw [Bool.eq_iff_iff]
  simp
  omega
theorem badR_high {n : Nat} (h : 128 ≤ n) : badR n = true := by
  unfold badR; simp; omega
theorem idx_plain (s : ByteArray) : ∀ (f d i : Nat), i + d = s.size → d ≤ f → decide (0 ≤ Lib.idxFuncFrom badR true s f i) = !(okF s d i)
  | f, 0, i, h, hf => by
    rw [Lib.idxFuncFrom_end _ _ _ _ _ (by omega)]; rfl
  | 0, d + 1, i, h, hf => by omega
  | f + 1, d + 1, i, h, hf => by
    have hi : i < s.size := by omega
    unfold Lib.idxFuncFrom
    rw [if_pos hi]
    simp only [okF]
    rw [bt_get hi, ← badR_of]
    by_cases hl : (s.get! i).toNat < 128
    · rw [decode_low hl]
      cases hb : badR (s.get! i).toNat
      · rw [if_neg (by simp [hb])]
        exact idx_plain s f d (i + 1) (by omega) (by omega)
      · simp
    · have h1 : badR (s.get! i).toNat = true := badR_high (by omega)
      have h2 : badR (Utf8.decode s i).1 = true := badR_high (decode_high (by omega))
      rw [h1, h2]; simp
theorem hasR_plain (s : ByteArray) : hasR badR s = !(plainB s) := by
  unfold hasR Lib.idxFunc plainB
  exact idx_plain s s.size s.size 0 (by omega) (Nat.le_refl _)
theorem plain_ok (s : ByteArray) : V.value_plain s = some (plainB s) := by
  apply V.value_plain.of; unfold F.value_plain.B
  rw [V.strings_ContainsFunc_by_value_plain_1.of s (r := hasR badR s) rfl, Option.bind_some, hasR_plain, Bool.not_not]

/-! ### A value's word -/
def showB (v : TValue) : ByteArray :=
  if valueB v then (if v.1 = 1 then (if v.2.1 = 1 then ⟨#[116, 114, 117, 101]⟩ else ⟨#[102, 97, 108, 115, 101]⟩) else if v.1 = 2 then itoaS v.2.1 else if plainB v.2.2 then (⟨#[39]⟩ : ByteArray) ++ v.2.2 else (⟨#[35]⟩ : ByteArray) ++ hexB v.2.2) else ⟨#[]⟩
theorem value_kind {v : TValue} (h : valueB v = true) : (v.1 = 1 ∨ v.1 = 2 ∨ v.1 = 3) ∧ v.2.2.size ≤ 64 := by
  unfold valueB at h
  simp only [Bool.or_eq_true, Bool.and_eq_true, beq_iff_eq, decide_eq_true_eq] at h
  omega
theorem Itoa_ok {a : Int} (h0 : -9223372036854775808 ≤ a) (h1 : a ≤ 9223372036854775807) : V.strconv_Itoa a = some (itoaS a) := by
  apply V.strconv_Itoa.of
  show itoaB a = _
  unfold itoaB
  exact guard_of (by simp [h0, h1])
theorem value_Show_ok (v : TValue) (hb : -9223372036854775808 ≤ v.2.1 ∧ v.2.1 ≤ 9223372036854775807) : V.value_Show v = some (showB v) := by
  obtain ⟨k, n, t⟩ := v
  apply V.value_Show.of; unfold F.value_Show.B
  rw [value_Check_ok, Option.bind_some]
  unfold showB
  cases hv : valueB (k, n, t) with
  | false => simp
  | true =>
    obtain ⟨hk, ht⟩ := value_kind hv
    simp only at hk ht hb
    simp only [if_true]
    rw [show ((0 : Int) != 0) = false from rfl, cond_false, Itoa_ok hb.1 hb.2, plain_ok t, sha_Hex_ok t (by omega)]
    simp only [Option.bind_some]
    rw [guard_dec (p := (⟨#[39]⟩ : ByteArray).size + t.size ≤ i64max) (by show 1 + _ ≤ _; simp only [i64max]; omega), guard_dec (p := (⟨#[35]⟩ : ByteArray).size + (hexB t).size ≤ i64max) (by rw [hexB_size]; show 1 + _ ≤ _; simp only [i64max]; omega)]
    rcases hk with rfl | rfl | rfl
    · by_cases h1 : n = 1
      · subst h1; simp
      · rw [show (n == 1) = false from beq_eq_false_iff_ne.2 h1, if_neg (show ¬ ((1, n, t) : TValue).2.1 = 1 from h1)]; rfl
    · simp
    · cases plainB t <;> simp
theorem awake06_ok : V.pleachlaw06_awake = some true := by
  apply V.pleachlaw06_awake.of; unfold F.pleachlaw06_awake.B
  rw [value_Put_ok (2, -1, ⟨#[]⟩) (by decide), Option.bind_some, value_Show_ok (3, 0, ⟨#[97, 32, 98]⟩) (by decide), Option.bind_some]
  decide +kernel
end Go.Proofs.YthnhkaaodghpgaaDoor.AE
end
section
set_option linter.unusedVariables false
set_option linter.unusedSimpArgs false
namespace Go.Proofs.YthnhkaaodghpgaaDoor.AE
open Go

def numE (s : ByteArray) (a : Nat) : Int := bif (getB (s.extract a s.size)).2.2 then 5 else 3
theorem numE_ne (s : ByteArray) (a : Nat) : numE s a ≠ 0 := by unfold numE; cases (getB (s.extract a s.size)).2.2 <;> decide
theorem Num_fail (s : ByteArray) (hs : s.size ≤ 140737488351232) (a : Nat) (ha : a ≤ s.size) (most : Nat) (hm : most ≤ 100000) (h : numP most s a = none) :
    V.scan_Scan_Num (s, (a : Int), 0, true) (most : Int) = some (0, s, (a : Int), numE s a, true) := by
  have hx := extract_size s a s.size
  have B : ∀ {r}, F.scan_Scan_Num.B V.scan_Scan_Err V.varint_Get V.scan_Scan_fail (s, (a : Int), 0, true) (most : Int) = some r → V.scan_Scan_Num (s, (a : Int), 0, true) (most : Int) = some r := V.scan_Scan_Num.of _ _
  unfold F.scan_Scan_Num.B at B
  dsimp only at B
  rw [Err_ok, Option.bind_some] at B
  dsimp only at B
  rw [guard_of (by simp; omega), nat_cast, nat_cast, Get_ok _ (by omega), Option.bind_some] at B
  simp only [bne_self_eq_false, cond_false] at B
  unfold numP at h
  rcases uP_get s a hs with ⟨N, m, hN, hg, hu⟩ | ⟨hg, hu⟩
  · rw [hu, Option.bind_some] at h
    have e : numE s a = 5 := by unfold numE; rw [hg]; rfl
    rw [hg] at B
    dsimp only at B h
    simp only [Bool.not_true, cond_false] at B
    rw [if_no (show ¬ (most : Int) < 0 by omega), u64_id (x := (most : Int)) (by omega) (by omega)] at B
    have hle : ¬ N ≤ most := by intro hle; rw [if_pos hle] at h; cases h
    rw [e]
    exact B (by rw [if_yes (by omega), fail_ok, Option.bind_some]; rfl)
  · have e : numE s a = 3 := by unfold numE; rw [hg]; rfl
    rw [hg] at B
    dsimp only at B
    rw [e]
    exact B (by rw [fail_ok, Option.bind_some]; rfl)
theorem rNum_fail (s : ByteArray) (hs : s.size ≤ 140737488351232) (a : Nat) (ha : a ≤ s.size) (most : Nat) (hm : most ≤ 100000) (h : numP most s a = none) :
    V.pleachref04_Num (s, (a : Int), 0) (most : Int) = some ((s, (a : Int), numE s a), 0) := by
  have hx := extract_size s a s.size
  have B : ∀ {r}, F.pleachref04_Num.B V.pleachref01_Get (s, (a : Int), 0) (most : Int) = some r → V.pleachref04_Num (s, (a : Int), 0) (most : Int) = some r := V.pleachref04_Num.of _ _
  unfold F.pleachref04_Num.B at B
  dsimp only at B
  rw [guard_of (by simp; omega), nat_cast, nat_cast, refGet_ok _ (by omega), Option.bind_some] at B
  simp only [bne_self_eq_false, cond_false] at B
  unfold numP at h
  rcases uP_get s a hs with ⟨N, m, hN, hg, hu⟩ | ⟨hg, hu⟩
  · rw [hu, Option.bind_some] at h
    have e : numE s a = 5 := by unfold numE; rw [hg]; rfl
    rw [hg] at B
    dsimp only at B h
    simp only [Bool.not_true, cond_false] at B
    rw [if_no (show ¬ (most : Int) < 0 by omega), u64_id (x := (most : Int)) (by omega) (by omega)] at B
    have hle : ¬ N ≤ most := by intro hle; rw [if_pos hle] at h; cases h
    rw [e]
    exact B (by rw [if_yes (by omega)])
  · have e : numE s a = 3 := by unfold numE; rw [hg]; rfl
    rw [hg] at B
    dsimp only at B
    rw [e]
    exact B rfl
def textE (most : Nat) (s : ByteArray) (a : Nat) : Int × Int := match numP most s a with
  | some x => ((x.2 : Int), 3)
  | none => ((a : Int), numE s a)
theorem textE_ne (most : Nat) (s : ByteArray) (a : Nat) : (textE most s a).2 ≠ 0 := by
  unfold textE; split
  · exact (by decide : (3 : Int) ≠ 0)
  · exact numE_ne s a
theorem Text_fail (s : ByteArray) (hs : s.size ≤ 140737488351232) (a : Nat) (ha : a ≤ s.size) (most : Nat) (hm : most ≤ 100000) (h : textP most s a = none) :
    V.scan_Scan_Text (s, (a : Int), 0, true) (most : Int) = some (⟨#[]⟩, s, (textE most s a).1, (textE most s a).2, true) := by
  have B : ∀ {r}, F.scan_Scan_Text.B V.scan_Scan_Num V.scan_Scan_take (s, (a : Int), 0, true) (most : Int) = some r → V.scan_Scan_Text (s, (a : Int), 0, true) (most : Int) = some r := V.scan_Scan_Text.of _ _
  unfold F.scan_Scan_Text.B at B
  dsimp only at B
  unfold textP at h
  unfold textE
  rcases Num_both s hs a ha most hm with ⟨n, b, h1, h2⟩ | ⟨h1, _⟩
  · obtain ⟨h3, h4⟩ := numP_le ha h1
    rw [h2, Option.bind_some] at B
    rw [h1, Option.bind_some] at h
    rw [h1]
    dsimp only at B h ⊢
    rcases take_both s hs b h4 n (by omega) with ⟨t, c, g1, g2⟩ | ⟨g1, g2⟩
    · rw [g1] at h; cases h
    · exact B (by rw [g2, Option.bind_some])
  · rw [Num_fail s hs a ha most hm h1, Option.bind_some] at B
    rw [h1]
    refine B ?_
    dsimp only
    rw [take_err s _ _ (numE_ne s a), Option.bind_some]
theorem rText_fail (s : ByteArray) (hs : s.size ≤ 140737488351232) (a : Nat) (ha : a ≤ s.size) (most : Nat) (hm : most ≤ 100000) (h : textP most s a = none) :
    V.pleachref04_Text (s, (a : Int), 0) (most : Int) = some ((s, (textE most s a).1, (textE most s a).2), ⟨#[]⟩) := by
  have B : ∀ {r}, F.pleachref04_Text.B V.pleachref04_Num V.pleachref04_fix (s, (a : Int), 0) (most : Int) = some r → V.pleachref04_Text (s, (a : Int), 0) (most : Int) = some r := V.pleachref04_Text.of _ _
  unfold F.pleachref04_Text.B at B
  dsimp only at B
  unfold textP at h
  unfold textE
  rcases rNum_both s hs a ha most hm with ⟨n, b, h1, h2⟩ | ⟨h1, _⟩
  · obtain ⟨h3, h4⟩ := numP_le ha h1
    rw [h2, Option.bind_some] at B
    rw [h1, Option.bind_some] at h
    rw [h1]
    dsimp only at B h ⊢
    simp only [bne_self_eq_false, cond_false] at B
    rcases rfix_both s hs b h4 n (by omega) with ⟨t, c, g1, g2⟩ | ⟨g1, g2⟩
    · rw [g1] at h; cases h
    · exact B (by rw [g2, Option.bind_some])
  · rw [rNum_fail s hs a ha most hm h1, Option.bind_some] at B
    rw [h1]
    refine B ?_
    dsimp only
    rw [bne_ne (numE_ne s a), cond_true]
theorem Int_fail (s : ByteArray) (hs : s.size ≤ 140737488351232) (a : Nat) (ha : a ≤ s.size) (h : intP s a = none) : V.scan_Scan_Int (s, (a : Int), 0, true) = some (0, s, (a : Int), 3, true) := by
  have hx := extract_size s a s.size
  have G : ∀ {r}, F.varint_GetInt.B V.varint_Get V.varint_Zag (s.extract a s.size) = some r → V.varint_GetInt (s.extract a s.size) = some r := V.varint_GetInt.of _
  unfold F.varint_GetInt.B at G
  rw [Get_ok _ (by omega), Option.bind_some] at G
  have B : ∀ {r}, F.scan_Scan_Int.B V.scan_Scan_Err V.varint_GetInt V.scan_Scan_fail (s, (a : Int), 0, true) = some r → V.scan_Scan_Int (s, (a : Int), 0, true) = some r := V.scan_Scan_Int.of _
  unfold F.scan_Scan_Int.B at B
  dsimp only at B
  rw [Err_ok, Option.bind_some] at B
  dsimp only at B
  rw [guard_of (by simp; omega), nat_cast, nat_cast] at B
  simp only [bne_self_eq_false, cond_false] at B
  unfold intP at h
  rcases uP_get s a hs with ⟨N, m, hN, hg, hu⟩ | ⟨hg, hu⟩
  · rw [hu] at h; cases h
  · rw [hg] at G
    refine B ?_
    have hz : V.varint_Zag 0 = some (zag 0) := Zag_ok 0 (by omega)
    rw [G (r := (zag 0, 0, false)) (by dsimp only; rw [hz, Option.bind_some]), Option.bind_some]
    dsimp only
    rw [fail_ok, Option.bind_some]
    rfl
theorem rInt_fail (s : ByteArray) (hs : s.size ≤ 140737488351232) (a : Nat) (ha : a ≤ s.size) (h : intP s a = none) : V.pleachref04_Int (s, (a : Int), 0) = some ((s, (a : Int), 3), 0) := by
  have hx := extract_size s a s.size
  have B : ∀ {r}, F.pleachref04_Int.B V.pleachref01_Get V.pleachref01_Zag (s, (a : Int), 0) = some r → V.pleachref04_Int (s, (a : Int), 0) = some r := V.pleachref04_Int.of _
  unfold F.pleachref04_Int.B at B
  dsimp only at B
  rw [guard_of (by simp; omega), nat_cast, nat_cast, refGet_ok _ (by omega), Option.bind_some] at B
  simp only [bne_self_eq_false, cond_false] at B
  unfold intP at h
  rcases uP_get s a hs with ⟨N, m, hN, hg, hu⟩ | ⟨hg, hu⟩
  · rw [hu] at h; cases h
  · rw [hg] at B
    exact B rfl
def valueE (s : ByteArray) (a : Nat) : Int × Int :=
  if a < s.size then
    if byteAt s (a : Int) = 1 then (if a + 1 < s.size then (((a + 2 : Nat) : Int), 3) else (((a + 1 : Nat) : Int), 3))
    else if byteAt s (a : Int) = 3 then textE 64 s (a + 1)
    else (((a + 1 : Nat) : Int), 3)
  else ((a : Int), 3)
theorem valueE_ne (s : ByteArray) (a : Nat) : (valueE s a).2 ≠ 0 := by
  unfold valueE
  repeat' split
  all_goals first | exact textE_ne _ _ _ | exact (by decide : (3 : Int) ≠ 0)
theorem Read_fail (s : ByteArray) (hs : s.size ≤ 140737488351232) (a : Nat) (ha : a ≤ s.size) (h : valueP s a = none) :
    V.value_Read (s, (a : Int), 0, true) = some ((0, 0, ⟨#[]⟩), s, (valueE s a).1, (valueE s a).2, true) := by
  have B : ∀ {r}, F.value_Read.B V.scan_Scan_Byte V.scan_Scan_Err V.value_Check V.scan_Scan_Fail V.scan_Scan_Int V.scan_Scan_Text (s, (a : Int), 0, true) = some r → V.value_Read (s, (a : Int), 0, true) = some r := V.value_Read.of _
  unfold F.value_Read.B at B
  dsimp only at B
  unfold valueP at h
  unfold valueE
  rcases Byte_both s hs a ha with ⟨h1, h2⟩ | ⟨h1, h2⟩
  · rw [if_pos h1] at h ⊢
    rw [h2, Option.bind_some] at B
    dsimp only at B
    by_cases c1 : byteAt s (a : Int) = 1
    · rw [if_pos c1] at h ⊢
      rw [c1] at B
      simp only [Int.reduceBEq, cond_true] at B
      rcases Byte_both s hs (a + 1) (by omega) with ⟨g1, g2⟩ | ⟨g1, g2⟩
      · rw [if_pos g1] at h ⊢
        rw [g2, Option.bind_some] at B
        dsimp only at B
        have E := Read_end s ((a + 1 + 1 : Nat) : Int) 0 (1, byteAt s ((a + 1 : Nat) : Int), ⟨#[]⟩)
        rw [if_pos rfl] at E
        by_cases hv : valueB (1, byteAt s ((a + 1 : Nat) : Int), ⟨#[]⟩) = true
        · rw [if_pos hv] at h; cases h
        · exact B (E.trans (by rw [if_neg hv]))
      · rw [if_neg g1]
        rw [g2, Option.bind_some] at B
        dsimp only at B
        exact B ((Read_end s _ 3 _).trans (by rw [if_neg (by omega)]))
    · rw [if_neg c1] at h ⊢
      rw [show (byteAt s (a : Int) == 1) = false by simp [c1], cond_false] at B
      by_cases c2 : byteAt s (a : Int) = 2
      · rw [if_pos c2] at h
        rw [if_neg (by omega)]
        rw [c2] at B
        simp only [Int.reduceBEq, cond_true] at B
        have g1 : intP s (a + 1) = none := by cases hh : intP s (a + 1) with | none => rfl | some x => rw [hh] at h; cases h
        rw [Int_fail s hs (a + 1) (by omega) g1, Option.bind_some] at B
        dsimp only at B
        exact B ((Read_end s _ 3 _).trans (by rw [if_neg (by omega)]))
      · rw [if_neg c2] at h
        rw [show (byteAt s (a : Int) == 2) = false by simp [c2], cond_false] at B
        by_cases c3 : byteAt s (a : Int) = 3
        · rw [if_pos c3] at h ⊢
          rw [c3] at B
          simp only [Int.reduceBEq, cond_true] at B
          have g1 : textP 64 s (a + 1) = none := by cases hh : textP 64 s (a + 1) with | none => rfl | some x => rw [hh] at h; cases h
          rw [show (64 : Int) = ((64 : Nat) : Int) from rfl, Text_fail s hs (a + 1) (by omega) 64 (by omega) g1, Option.bind_some] at B
          dsimp only at B
          exact B ((Read_end s _ _ _).trans (by rw [if_neg (textE_ne _ _ _)]))
        · rw [if_neg c3]
          rw [show (byteAt s (a : Int) == 3) = false by simp [c3], cond_false] at B
          refine B ((Read_end s _ 0 _).trans ?_)
          rw [if_pos rfl, if_neg (by simp [valueB, c1, c2, c3])]
  · rw [if_neg h1]
    rw [h2, Option.bind_some] at B
    dsimp only at B
    simp only [Int.reduceBEq, cond_false] at B
    exact B ((Read_end s _ 3 _).trans (by rw [if_neg (by omega)]))
theorem rRead_fail (s : ByteArray) (hs : s.size ≤ 140737488351232) (a : Nat) (ha : a ≤ s.size) (h : valueP s a = none) :
    V.pleachref06_Read (s, (a : Int), 0) = some ((s, (valueE s a).1, (valueE s a).2), 0, 0, ⟨#[]⟩) := by
  have B : ∀ {r}, F.pleachref06_Read.B V.pleachref04_Byte V.pleachref04_Int V.pleachref04_Text V.pleachref06_Is (s, (a : Int), 0) = some r → V.pleachref06_Read (s, (a : Int), 0) = some r := V.pleachref06_Read.of _
  unfold F.pleachref06_Read.B at B
  dsimp only at B
  unfold valueP at h
  unfold valueE
  rcases rByte_both s hs a ha with ⟨h1, h2⟩ | ⟨h1, h2⟩
  · rw [if_pos h1] at h ⊢
    rw [h2, Option.bind_some] at B
    dsimp only at B
    by_cases c1 : byteAt s (a : Int) = 1
    · rw [if_pos c1] at h ⊢
      rw [c1] at B
      simp only [Int.reduceBEq, cond_true, cond_false] at B
      rcases rByte_both s hs (a + 1) (by omega) with ⟨g1, g2⟩ | ⟨g1, g2⟩
      · rw [if_pos g1] at h ⊢
        rw [g2, Option.bind_some] at B
        dsimp only at B
        have E := rRead_end s ((a + 1 + 1 : Nat) : Int) 0 1 (byteAt s ((a + 1 : Nat) : Int)) ⟨#[]⟩
        rw [if_pos rfl] at E
        by_cases hv : valueB (1, byteAt s ((a + 1 : Nat) : Int), ⟨#[]⟩) = true
        · rw [if_pos hv] at h; cases h
        · exact B (E.trans (by rw [if_neg hv]))
      · rw [if_neg g1]
        rw [g2, Option.bind_some] at B
        dsimp only at B
        exact B ((rRead_end s _ 3 _ _ _).trans (by rw [if_neg (by omega)]))
    · rw [if_neg c1] at h ⊢
      rw [show (byteAt s (a : Int) == 1) = false by simp [c1], cond_false] at B
      by_cases c2 : byteAt s (a : Int) = 2
      · rw [if_pos c2] at h
        rw [if_neg (by omega)]
        rw [c2] at B
        simp only [Int.reduceBEq, cond_true, cond_false] at B
        have g1 : intP s (a + 1) = none := by cases hh : intP s (a + 1) with | none => rfl | some x => rw [hh] at h; cases h
        rw [rInt_fail s hs (a + 1) (by omega) g1, Option.bind_some] at B
        dsimp only at B
        exact B ((rRead_end s _ 3 _ _ _).trans (by rw [if_neg (by omega)]))
      · rw [if_neg c2] at h
        rw [show (byteAt s (a : Int) == 2) = false by simp [c2], cond_false] at B
        by_cases c3 : byteAt s (a : Int) = 3
        · rw [if_pos c3] at h ⊢
          rw [c3] at B
          simp only [Int.reduceBEq, cond_true, cond_false] at B
          have g1 : textP 64 s (a + 1) = none := by cases hh : textP 64 s (a + 1) with | none => rfl | some x => rw [hh] at h; cases h
          rw [show (64 : Int) = ((64 : Nat) : Int) from rfl, rText_fail s hs (a + 1) (by omega) 64 (by omega) g1, Option.bind_some] at B
          dsimp only at B
          exact B ((rRead_end s _ _ _ _ _).trans (by rw [if_neg (textE_ne _ _ _)]))
        · rw [if_neg c3]
          rw [show (byteAt s (a : Int) == 3) = false by simp [c3], cond_false] at B
          refine B ((rRead_end s _ 0 _ _ _).trans ?_)
          rw [if_pos rfl, if_neg (by simp [valueB, c1, c2, c3])]
  · rw [if_neg h1]
    rw [h2, Option.bind_some] at B
    dsimp only at B
    simp only [Int.reduceBEq, cond_true, cond_false] at B
    exact B rfl

/-! ### A value of bytes -/
theorem End_zero (s : ByteArray) (b : Nat) : V.scan_Scan_End (s, (b : Int), 0, true) = some (if b < s.size then (3, s, (b : Int), 3, true) else (0, s, (b : Int), 0, true)) := by
  apply V.scan_Scan_End.of; unfold F.scan_Scan_End.B
  dsimp only
  rw [Err_ok, Option.bind_some]
  dsimp only
  rw [show ((0 : Int) == 0) = true from rfl, cond_true, meet_self]
  by_cases h : b < s.size
  · rw [if_yes (by omega), if_pos h, Err_ok, Option.bind_some]
  · rw [if_no (by omega), if_neg h, Err_ok, Option.bind_some]
theorem End_err (s : ByteArray) (p e : Int) (he : e ≠ 0) : V.scan_Scan_End (s, p, e, true) = some (e, s, p, e, true) := by
  apply V.scan_Scan_End.of; unfold F.scan_Scan_End.B
  dsimp only
  rw [Err_ok, Option.bind_some]
  dsimp only
  rw [show (e == 0) = false from beq_eq_false_iff_ne.2 he, cond_false, Err_ok, Option.bind_some]
theorem rEnd_zero (s : ByteArray) (b : Nat) : V.pleachref04_End (s, (b : Int), 0) = some (if b < s.size then (s, (b : Int), 3) else (s, (b : Int), 0)) := by
  apply V.pleachref04_End.of; unfold F.pleachref04_End.B
  dsimp only
  rw [show ((0 : Int) == 0) = true from rfl, cond_true]
  by_cases h : b < s.size
  · rw [if_yes (by omega), if_pos h]
  · rw [if_no (by omega), if_neg h]
theorem rEnd_err (s : ByteArray) (p e : Int) (he : e ≠ 0) : V.pleachref04_End (s, p, e) = some (s, p, e) := by
  apply V.pleachref04_End.of; unfold F.pleachref04_End.B
  dsimp only
  rw [show (e == 0) = false from beq_eq_false_iff_ne.2 he, cond_false]
/-- The value of bytes, and the error. -/
def takeV (s : ByteArray) : TValue × Int := match valueP s 0 with
  | some (v, b) => if b < s.size then ((0, 0, ⟨#[]⟩), 3) else (v, 0)
  | none => ((0, 0, ⟨#[]⟩), (valueE s 0).2)
theorem New_ok (s : ByteArray) : V.scan_New s = some (s, 0, 0, true) := V.scan_New.of s rfl
theorem Take_ok (s : ByteArray) (hs : s.size ≤ 140737488351232) : V.value_Take s = some (takeV s) := by
  apply V.value_Take.of; unfold F.value_Take.B
  rw [New_ok, Option.bind_some]
  dsimp only
  unfold takeV
  rcases Read_both s hs 0 (by omega) with ⟨v, b, h1, h2, h3⟩ | ⟨h1, _⟩
  · rw [h1]
    rw [show ((0 : Nat) : Int) = 0 from rfl] at h3
    rw [h3, Option.bind_some]
    dsimp only
    rw [End_zero, Option.bind_some]
    by_cases hb : b < s.size
    · simp [hb]
    · simp [hb]
  · rw [h1]
    have := Read_fail s hs 0 (by omega) h1
    rw [show ((0 : Nat) : Int) = 0 from rfl] at this
    rw [this, Option.bind_some]
    dsimp only
    rw [End_err _ _ _ (valueE_ne s 0), Option.bind_some]
    dsimp only
    rw [bne_ne (valueE_ne s 0), cond_true]
theorem rTake_ok (s : ByteArray) (hs : s.size ≤ 140737488351232) : V.pleachref06_Take s = some (takeV s) := by
  apply V.pleachref06_Take.of; unfold F.pleachref06_Take.B
  unfold takeV
  rcases rRead_both s hs 0 (by omega) with ⟨v, b, h1, h2, h3⟩ | ⟨h1, _⟩
  · rw [h1]
    rw [show ((0 : Nat) : Int) = 0 from rfl] at h3
    rw [h3, Option.bind_some]
    dsimp only
    rw [rEnd_zero, Option.bind_some]
    by_cases hb : b < s.size
    · simp [hb]
    · simp [hb]
  · rw [h1]
    have := rRead_fail s hs 0 (by omega) h1
    rw [show ((0 : Nat) : Int) = 0 from rfl] at this
    rw [this, Option.bind_some]
    dsimp only
    rw [rEnd_err _ _ _ (valueE_ne s 0), Option.bind_some]
    dsimp only
    rw [bne_ne (valueE_ne s 0), cond_true]
end Go.Proofs.YthnhkaaodghpgaaDoor.AE
end
section
set_option linter.unusedVariables false
set_option linter.unusedSimpArgs false
namespace Go.Proofs.YthnhkaaodghpgaaDoor.AE
open Go
theorem At_ok (s : ByteArray) (p e : Int) : V.scan_Scan_At (s, p, e, true) = some (p, s, p, e, true) := V.scan_Scan_At.of _ rfl
theorem ValueTakes_end (s : ByteArray) (v : TValue) (p e : Int) : (bif ((v.1 == v.1) && ((v.2.1 == v.2.1) && ((strEq v.2.2 v.2.2)))) then ((V.scan_Scan_Err (s, p, e, true)).bind fun t6 => (bif (t6.1 == e) then ((V.scan_Scan_At (t6.2.1, t6.2.2.1, t6.2.2.2.1, t6.2.2.2.2)).bind fun t7 => (bif (t7.1 == p) then ((some true : Option Bool).bind fun t8 => (some t8)) else (some false))) else (some false))) else (some false)) = some true := by
  rw [Err_ok, Option.bind_some]
  dsimp only
  rw [At_ok, Option.bind_some]
  simp [strEq_self]
theorem ValueTakes_pure (s : ByteArray) (hs : s.size ≤ 140737488351232) : V.pleachlaw06_ValueTakes s = some true := by
  apply V.pleachlaw06_ValueTakes.of; unfold F.pleachlaw06_ValueTakes.B
  rw [awake06_ok]
  by_cases h : (s.size : Int) > 1000
  · rw [if_yes h]; rfl
  · rw [if_no h, Take_ok s hs, Option.bind_some, rTake_ok s hs, Option.bind_some, New_ok, Option.bind_some]
    dsimp only
    simp only [beq_self_eq_true, strEq_self, Bool.and_true, cond_true]
    rcases Read_both s hs 0 (by omega) with ⟨v, b, h1, h2, h3⟩ | ⟨h1, _⟩
    · rcases rRead_both s hs 0 (by omega) with ⟨v', b', g1, g2, g3⟩ | ⟨g1, _⟩
      · rw [h1] at g1; cases g1
        rw [show ((0 : Nat) : Int) = 0 from rfl] at h3 g3
        rw [h3, Option.bind_some, g3, Option.bind_some]
        exact ValueTakes_end s v (b : Int) 0
      · rw [h1] at g1; cases g1
    · have h3 := Read_fail s hs 0 (by omega) h1
      have g3 := rRead_fail s hs 0 (by omega) h1
      rw [show ((0 : Nat) : Int) = 0 from rfl] at h3 g3
      rw [h3, Option.bind_some, g3, Option.bind_some]
      exact ValueTakes_end s (0, 0, ⟨#[]⟩) _ _
end Go.Proofs.YthnhkaaodghpgaaDoor.AE
end
section
namespace Go.Proofs.YthnhkaaodghpgaaDoor.AE
open Go Go.ChangeShapes Go.WideShapes Go.ChangeAt Go.RowKit Go.Lib Go.Sort
variable {W₀ : World}
theorem weights_each {H : Type} {P : Program} {p : Nat → Bool} {ts : List TypeId} {ds : List (DataW H)} (h : (DataW.weightsEach P ts ds).all p = true) {j : Nat} {t : TypeId} {d : DataW H} (ht : ts[j]? = some t) (hd : ds[j]? = some d) : ∀ n ∈ d.weights P t, p n = true :=
  fun n hn => List.all_eq_true.1 h _ (DataW.weights_mem_each ht hd n hn)
theorem own : ownKnob Tryd.prog.godebug = none := by kernel_rfl
theorem laidOut : laidOutB Tryd.prog = true := by kernel_rfl
theorem mix : Tryd.prog.follows .mixedOrders = true := by kernel_rfl
theorem numGoB : (Tryd.prog.funcs.all fun fn => !(fn.name == "runtime.NumGoroutine")) = true := by kernel_rfl
theorem num (f : FuncId) (fn : Func) (h : Tryd.prog.funcs[f]? = some fn) : (fn.name == "runtime.NumGoroutine") = false := by
  have := Array.all_eq_true_iff_forall_mem.1 numGoB fn (Array.mem_of_getElem? h)
  simpa using this
def layCont_ren : Go.Shelf.Ren := ⟨fun i => match i with | 15 => 76 | 17 => 56 | 20 => 88 | _ => 0, fun i => match i with | 0 => 0 | 3 => 3 | 4 => 4 | 9 => 9 | 21 => 21 | 23 => 75 | _ => 0, fun x => x⟩
set_option maxRecDepth 100000 in
theorem layCont : Go.Proofs.LaysGw.n17 Tryd.prog layCont_ren where
  mixed := mix
  f15 := Tryd.func76.trans (congrArg some (by kernel_rfl))
  f17 := Tryd.func56.trans (congrArg some (by kernel_rfl))
  f20 := Tryd.func88.trans (congrArg some (by kernel_rfl))
  t0 := by kernel_rfl
  a0 := by intro w; kernel_rfl
  z0 := by intro w; kernel_rfl
  v0 := by intro w; kernel_rfl
  i0 := by kernel_rfl
  t3 := by kernel_rfl
  a3 := by intro w; kernel_rfl
  z3 := by intro w; kernel_rfl
  v3 := by intro w; kernel_rfl
  i3 := by kernel_rfl
  t4 := by kernel_rfl
  a4 := by intro w; kernel_rfl
  z4 := by intro w; kernel_rfl
  v4 := by intro w; kernel_rfl
  i4 := by kernel_rfl
  t9 := by kernel_rfl
  a9 := by intro w; kernel_rfl
  z9 := by intro w; kernel_rfl
  v9 := by intro w; kernel_rfl
  i9 := by kernel_rfl
  t21 := by kernel_rfl
  a21 := by intro w; kernel_rfl
  z21 := by intro w; kernel_rfl
  v21 := by intro w; kernel_rfl
  i21 := by kernel_rfl
  t23 := by kernel_rfl
  a23 := by intro w; kernel_rfl
  z23 := by intro w; kernel_rfl
  v23 := by intro w; kernel_rfl
  i23 := by kernel_rfl
theorem pred57 (w : World) : PredAt Tryd.prog 57 #[] encR badR w := by
  intro W x hb
  unfold FnGives
  show Calls Tryd.prog 57 #[.int .i32 (x : Int)] W _
  go_enter Tryd.func57, Tryd.ntmps57
  go_wp2
  all_goals
    go_ret
    refine ⟨congrArg (fun b => Ending.returned (Value.bool b)) ?_, 0, rfl⟩
    simp only [badR]
    rw [Bool.eq_iff_iff]
    simp
    try omega
def layItoa_ren : Go.Shelf.Ren := ⟨fun i => match i with | 129 => 95 | 171 => 31 | 243 => 55 | 246 => 75 | 283 => 84 | 284 => 85 | 285 => 86 | 286 => 87 | 317 => 94 | 318 => 96 | 319 => 97 | 320 => 98 | 337 => 102 | 338 => 103 | _ => 0, fun i => match i with | 0 => 0 | 2 => 2 | 3 => 3 | 4 => 4 | 5 => 5 | 9 => 9 | 20 => 20 | 37 => 51 | 46 => 76 | 51 => 109 | 53 => 55 | 171 => 96 | 173 => 98 | 212 => 108 | 213 => 110 | 232 => 122 | 233 => 123 | _ => 0, fun i => match i with | 17 => 1 | 18 => 4 | 19 => 5 | _ => 0⟩
set_option maxRecDepth 100000 in
theorem layItoa : Go.Proofs.LaysM.n171 Tryd.prog layItoa_ren where
  mixed := mix
  f129 := Tryd.func95.trans (congrArg some (by kernel_rfl))
  f171 := Tryd.func31.trans (congrArg some (by kernel_rfl))
  f243 := Tryd.func55.trans (congrArg some (by kernel_rfl))
  f246 := Tryd.func75.trans (congrArg some (by kernel_rfl))
  f283 := Tryd.func84.trans (congrArg some (by kernel_rfl))
  f284 := Tryd.func85.trans (congrArg some (by kernel_rfl))
  f285 := Tryd.func86.trans (congrArg some (by kernel_rfl))
  f286 := Tryd.func87.trans (congrArg some (by kernel_rfl))
  f317 := Tryd.func94.trans (congrArg some (by kernel_rfl))
  f318 := Tryd.func96.trans (congrArg some (by kernel_rfl))
  f319 := Tryd.func97.trans (congrArg some (by kernel_rfl))
  f320 := Tryd.func98.trans (congrArg some (by kernel_rfl))
  f337 := Tryd.func102.trans (congrArg some (by kernel_rfl))
  f338 := Tryd.func103.trans (congrArg some (by kernel_rfl))
  t0 := by kernel_rfl
  a0 := by intro w; kernel_rfl
  z0 := by intro w; kernel_rfl
  v0 := by intro w; kernel_rfl
  t2 := by kernel_rfl
  a2 := by intro w; kernel_rfl
  z2 := by intro w; kernel_rfl
  v2 := by intro w; kernel_rfl
  t3 := by kernel_rfl
  a3 := by intro w; kernel_rfl
  z3 := by intro w; kernel_rfl
  v3 := by intro w; kernel_rfl
  t4 := by kernel_rfl
  a4 := by intro w; kernel_rfl
  z4 := by intro w; kernel_rfl
  v4 := by intro w; kernel_rfl
  t5 := by kernel_rfl
  a5 := by intro w; kernel_rfl
  z5 := by intro w; kernel_rfl
  v5 := by intro w; kernel_rfl
  t9 := by kernel_rfl
  a9 := by intro w; kernel_rfl
  z9 := by intro w; kernel_rfl
  v9 := by intro w; kernel_rfl
  t20 := by kernel_rfl
  a20 := by intro w; kernel_rfl
  z20 := by intro w; kernel_rfl
  v20 := by intro w; kernel_rfl
  t37 := by kernel_rfl
  a37 := by intro w; kernel_rfl
  z37 := by intro w; kernel_rfl
  v37 := by intro w; kernel_rfl
  t46 := by kernel_rfl
  a46 := by intro w; kernel_rfl
  z46 := by intro w; kernel_rfl
  v46 := by intro w; kernel_rfl
  t51 := by kernel_rfl
  a51 := by intro w; kernel_rfl
  z51 := by intro w; kernel_rfl
  v51 := by intro w; kernel_rfl
  t53 := by kernel_rfl
  a53 := by intro w; kernel_rfl
  z53 := by intro w; kernel_rfl
  v53 := by intro w; kernel_rfl
  t171 := by kernel_rfl
  a171 := by intro w; kernel_rfl
  z171 := by intro w; kernel_rfl
  v171 := by intro w; kernel_rfl
  t173 := by kernel_rfl
  a173 := by intro w; kernel_rfl
  z173 := by intro w; kernel_rfl
  v173 := by intro w; kernel_rfl
  t212 := by kernel_rfl
  a212 := by intro w; kernel_rfl
  z212 := by intro w; kernel_rfl
  v212 := by intro w; kernel_rfl
  t213 := by kernel_rfl
  a213 := by intro w; kernel_rfl
  z213 := by intro w; kernel_rfl
  t232 := by kernel_rfl
  a232 := by intro w; kernel_rfl
  z232 := by intro w; kernel_rfl
  v232 := by intro w; kernel_rfl
  t233 := by kernel_rfl
  a233 := by intro w; kernel_rfl
  z233 := by intro w; kernel_rfl
  v233 := by intro w; kernel_rfl
  g17 := by kernel_rfl
  g18 := by kernel_rfl
  g19 := by kernel_rfl
  i0 := by kernel_rfl
  i2 := by kernel_rfl
  i3 := by kernel_rfl
  i4 := by kernel_rfl
  i5 := by kernel_rfl
  i9 := by kernel_rfl
  i20 := by kernel_rfl
  i37 := by kernel_rfl
  i46 := by kernel_rfl
  i51 := by kernel_rfl
  i53 := by kernel_rfl
  i171 := by kernel_rfl
  i173 := by kernel_rfl
  i212 := by kernel_rfl
  i232 := by kernel_rfl
  i233 := by kernel_rfl
  m17 := by kernel_rfl
  m18 := by kernel_rfl
  m19 := by kernel_rfl
theorem extok (htab : Lib.TabIs Tryd.prog W₀ "internal/strconv.uint64pow10" .u64 Lib.pow10Tab) : ExtOk W₀ Tryd.prog sg := .of (show extAll W₀ Tryd.prog sgT from
  ⟨.nothing rfl rfl,
  ⟨.nothing rfl rfl,
  ⟨.nothing rfl rfl,
  ⟨.nothing rfl rfl,
  ⟨.nothing rfl rfl,
  ⟨.nothing rfl rfl,
  ⟨.nothing rfl rfl,
  ⟨.nothing rfl rfl,
  ⟨.nothing rfl rfl,
  ⟨.nothing rfl rfl,
  ⟨.nothing rfl rfl,
  ⟨.nothing rfl rfl,
  ⟨.nothing rfl rfl,
  ⟨.nothing rfl rfl,
  ⟨.nothing rfl rfl,
  ⟨.nothing rfl rfl,
  ⟨.nothing rfl rfl,
  ⟨.nothing rfl rfl,
  ⟨.nothing rfl rfl,
  ⟨.nothing rfl rfl,
  ⟨.nothing rfl rfl,
  ⟨.nothing rfl rfl,
  ⟨.nothing rfl rfl,
  ⟨.nothing rfl rfl,
  ⟨(itoa_ext layItoa rfl htab),
  ⟨.nothing rfl rfl,
  ⟨.nothing rfl rfl,
  ⟨.nothing rfl rfl,
  ⟨.nothing rfl rfl,
  ⟨.nothing rfl rfl,
  ⟨.nothing rfl rfl,
  ⟨.nothing rfl rfl,
  ⟨.nothing rfl rfl,
  ⟨.nothing rfl rfl,
  ⟨.nothing rfl rfl,
  ⟨.nothing rfl rfl,
  ⟨.nothing rfl rfl,
  ⟨.nothing rfl rfl,
  ⟨.nothing rfl rfl,
  ⟨.nothing rfl rfl,
  ⟨.nothing rfl rfl,
  ⟨.nothing rfl rfl,
  ⟨.nothing rfl rfl,
  ⟨.nothing rfl rfl,
  ⟨.nothing rfl rfl,
  ⟨(cont_ext layCont rfl (enters_of Tryd.func57 (by kernel_rfl) rfl) pred57),
  ⟨.nothing rfl rfl,
  ⟨.nothing rfl rfl,
  ⟨.nothing rfl rfl,
  ⟨.nothing rfl rfl,
  ⟨.nothing rfl rfl,
  ⟨.nothing rfl rfl,
  ⟨.nothing rfl rfl,
  ⟨.nothing rfl rfl,
  ⟨.nothing rfl rfl,
  ⟨.nothing rfl rfl,
  ⟨.nothing rfl rfl,
  ⟨.nothing rfl rfl,
  ⟨.nothing rfl rfl,
  ⟨.ofOp rfl rfl (opCompare_ok Tryd.func77 (by kernel_rfl) (by kernel_rfl) (by kernel_rfl) (by kernel_rfl)),
  ⟨.nothing rfl rfl,
  ⟨.nothing rfl rfl,
  trivial⟩⟩⟩⟩⟩⟩⟩⟩⟩⟩⟩⟩⟩⟩⟩⟩⟩⟩⟩⟩⟩⟩⟩⟩⟩⟩⟩⟩⟩⟩⟩⟩⟩⟩⟩⟩⟩⟩⟩⟩⟩⟩⟩⟩⟩⟩⟩⟩⟩⟩⟩⟩⟩⟩⟩⟩⟩⟩⟩⟩⟩⟩)
end Go.Proofs.YthnhkaaodghpgaaDoor.AE
end
section
namespace Go.Proofs.YthnhkaaodghpgaaDoor.AE.valueTakes
open Go Go.ChangeShapes Go.WideShapes Go.ChangeAt Go.RowKit
open Go.ChangeMaps (open_string shut_string)
set_option linter.unusedVariables false
def Pure : Prop := ∀ (x0 : den .str), Gd .str x0 → ∃ K, F.pleachlaw06_ValueTakes K x0 = some true
theorem door_met (os : Os) (args : Array Value) : laidMetH Tryd.prog Rows.valueTakesRow.laid ((World.doorLaid Tryd.prog 400 os).forCall (fun _ _ => 0) ⟨#[], args, []⟩).memory :=
  laidMetH_of_parts3 (fuel := 8) (laidMet_of_run' 8 (by kernel_rfl) (by kernel_rfl)) (by kernel_rfl) (by kernel_rfl)
theorem tab_is : (Rows.laid_internal_strconv_uint64pow10 : DataW Unit) = Lib.tabData .u64 Lib.pow10Tab := by kernel_rfl
theorem tab_of {W : World} (h : laidMetH Tryd.prog Rows.valueTakesRow.laid W) : Lib.TabIs Tryd.prog W "internal/strconv.uint64pow10" .u64 Lib.pow10Tab := by
  rw [MakeChecks.laidMetH_plain _ _ _ (by kernel_rfl)] at h
  obtain ⟨ps, ⟨_, _, _, _, _, _, _, _, _, _, ⟨_, _, _, _, _, _, _, _, _, _, ⟨g, t, cs, f, p, q, hg, ht, hv, hd, _, _⟩, _⟩, _⟩, _, _⟩ := h
  obtain rfl := Option.some.inj ((show Tryd.prog.globalNamed "internal/strconv.uint64pow10" = some 1 by kernel_rfl).symm.trans hg)
  obtain rfl := Option.some.inj ((show (Tryd.prog.globals[1]?).map (·.type) = some 108 by kernel_rfl).symm.trans ht)
  rw [tab_is] at hd
  unfold Lib.TabIs
  rw [hv, ← Lib.cells_of_tab Tryd.underlying108 Tryd.underlying55 (by kernel_rfl) (by kernel_rfl) hd]
set_option maxRecDepth 100000 in
theorem lifted (pure : Pure) (os : Os) (started : os.Started) (H : Type) (enc : TypeId × Value → H) :
    ReturnsInHanded {} Tryd.checked os 5 .any (fun w args => (Rows.valueTakesSpec.pre enc Tryd.prog Tryd.f5 Rows.valueTakesRow.domain false w args ∧ laidMetH Tryd.prog Rows.valueTakesRow.laid w) ∧ sizedMet enc Tryd.prog Tryd.f5 (OpenSpec.ofChange Rows.valueTakesSpec) false w args) (Rows.valueTakesSpec.post enc Tryd.prog Tryd.f5 false true false false) := by
  refine returnsInHanded_of_change_and (C := Tryd.checked) (X := (fun w _ => laidMetH Tryd.prog Rows.valueTakesRow.laid w)) (fun _ _ _ hh h => h.of_heap hh) own started (by kernel_rfl) Tryd.func5
    (ChangeSpec.witness_shaped (enc := enc) (C := Tryd.checked) (os := os) (X := (fun w _ => laidMetH Tryd.prog Rows.valueTakesRow.laid w)) false (World.doorLaid Tryd.prog 400 os) #[.string ByteArray.empty] 8 rfl (World.shaped_of_RefB (by kernel_rfl) (by kernel_rfl)) (by kernel_rfl) (by kernel_rfl) (by kernel_rfl) (door_met os _)) ?_
  intro W base args ds gs before hval0 hW hcnd hsz0 hL _
  have hsz : (DataW.weightsEach Tryd.prog (Tryd.f5.params.toList ++ Rows.valueTakesSpec.plain.varTypes Tryd.prog) (ds ++ gs)).all (· ≤ reachBytes) = true := hsz0
  have hval : ∀ (j : Nat) t v, Tryd.f5.params[j]? = some t → args[j]? = some v → Value.okWide Tryd.prog W .any base t v := hval0
  have hW' := hW
  obtain ⟨p, q, hA0, hV, rfl, hfz, hnd⟩ := hW
  have hA : DataW.TrodAll enc Tryd.prog W 0 (fun _ => true) true Tryd.f5.params.toList args.toList ds p := hA0
  rw [Tryd.params5] at hA hval hsz
  obtain ⟨v0, vs0, d0, ds0, p0, q0, hargs, rfl, rfl, h0, r0⟩ := trodAll_cons hA
  obtain ⟨rfl, rfl, rfl⟩ := trodAll_nil r0
  obtain rfl : args = #[v0] := by cases args; simp_all
  obtain ⟨rfl, rfl⟩ := trodVars_none hV
  obtain ⟨x0, rfl, rfl, rfl, y0⟩ := open_string Tryd.underlying9 (hval 0 9 v0 rfl rfl) h0
  have G0 : Gd .str x0 := by
    have z := sized_string hsz (j := 0) (t := 9) rfl rfl
    rw [Array.length_toList] at z
    exact z
  obtain ⟨K, hk⟩ := pure x0 G0
  have ha : AV1sR (OX (NoX (W₀ := W)) [] []) W [] [.sc (.val (.string x0))] (#[.string x0] : Array Value).toList := .cons (.sc (.val _)) ⟨rfl, by simp⟩
  refine (law_calls (good Tryd.prog sg (extok (tab_of hL)) mix num K) (f := 5) (t := (true : Bool)) (b := true) hk rfl (fun O w ρ vals σ v h hv => bool_of h hv) ha).mono fun e W' ⟨he, hd⟩ => ?_
  have bel : Below W.heap.size W W' := hd
  subst he
  exact ⟨_, rfl, _, _, _, [], _, [], hW', trodAll_mk1 (shut_bool Tryd.underlying4 _), (trodAll_cons_mk (shut_string Tryd.underlying9 y0) trodAll_mk0), rfl, bel.frame _, fun h => by cases h⟩
theorem over (pure : Pure) : Rows.valueTakesRow.holds Tryd.pinned (OpenSpec.ofChange Rows.valueTakesSpec) :=
  OpenClaim.holds_of_wide 5 Tryd.f5 rfl rfl rfl rfl rfl rfl rfl ⟨rfl, rfl, rfl, rfl, rfl⟩ rfl rfl rfl rfl rfl (by kernel_rfl) Tryd.func5 (by kernel_rfl)
    (of_decide_eq_true (by kernel_rfl)) (by unfold Func.isWrapper; first | (rw [if_pos (by decide +kernel)]; kernel_rfl) | (rw [if_neg (by decide +kernel)]; exact ⟨rfl, rfl⟩))
    (fun os started H enc _ => lifted pure os started H enc)
theorem proved (pure : Pure) : Rows.ValueTakesSaid := over pure
theorem card (pure : Pure) : Rows.ValueTakesCardSaid :=
  Claim7.holds_tied_plain_at .later [] [.data, .data, .data] true (true, "0c07123f308a968201183fd7117c883c7d7789a0b9d131a54359b9fd958c0658") true
    (proved pure) (fun _ h => by cases h) (by kernel_rfl) (fun _ h => by cases h) valueTakes_row_tie rfl ⟨rfl, rfl⟩ (by kernel_rfl) rfl
    (fun f fn hf hfn => by
      obtain rfl : f = 5 := Option.some.inj ((show Tryd.prog.funcNamed "pleach/pleachlaw06.ValueTakes" = some 5 by kernel_rfl).symm.trans hf) |>.symm
      obtain rfl : fn = Tryd.f5 := (Option.some.inj (Tryd.func5.symm.trans hfn)).symm
      refine ⟨by kernel_rfl, fun j t ht => ?_⟩
      rw [Tryd.params5] at ht
      have hm : t ∈ [9] := by
        have := Array.mem_of_getElem? ht
        simpa using this
      simp only [List.mem_cons, List.mem_nil_iff, or_false] at hm
      obtain rfl := hm
      all_goals first | exact (show Tryd.prog.wantsStandIn 9 = false by kernel_rfl))
    (by kernel_rfl)
end Go.Proofs.YthnhkaaodghpgaaDoor.AE.valueTakes
end
