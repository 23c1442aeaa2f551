/- The evaluator of the program's form, its soundness, the functions of the given program as it evaluates them, and laws on these. Conditions: as each theorem says. -/
import Derived.Test.YthnhkaaodghpgaaDoorCValueBackN2
import Derived.Test.YthnhkaaodghpgaaDoorProg
import Derived.Laws.BitsLemmas
import Derived.Test.YthnhkaaodghpgaaDoorRows
import Derived.WalkKit
import Derived.ProofKit
import Derived.OpenShut
import Derived.ShutString
import Derived.ChangeOld
import Derived.Below
import Derived.SizedLaws
import Derived.LaidMore
import Derived.Stop.Joined
import Derived.Stop.LaidErr
import Derived.Test.YthnhkaaodghpgaaDoorTie
import Derived.Test.YthnhkaaodghpgaaDoorCards
import Derived.SevenTiedAt
section
set_option linter.unusedVariables false
set_option maxRecDepth 100000
namespace Go.Proofs.YthnhkaaodghpgaaDoor.AE
open Go
abbrev TValue : Type := Int × Int × ByteArray
abbrev sValue : Sh := (.prod (.int .i64) (.prod (.int .i64) .str))
abbrev sScan : Sh := (.prod .str (.prod (.int .i64) (.int .i64)))
abbrev TScanx : Type := ByteArray × Int × Int × Bool
abbrev sScanx : Sh := (.prod .str (.prod (.int .i64) (.prod (.int .i64) .bool)))
def sgT : List (Nat × Sig) := [
  (3, { ps := [(.agg sValue)], vals := [.sc .bool] }),
  (4, { ps := [(.agg sValue), (.agg sValue), (.agg sValue)], vals := [.sc .bool] }),
  (5, { vals := [.sc .bool], excl := [(8, [2])] }),
  (6, { vals := [.sc .bool] }),
  (7, { ps := [(.agg sValue), .raw], vals := [.sc .bool] }),
  (8, { vals := [.sc .bool] }),
  (9, { ps := [(.agg sValue)], tup := true, vals := [.sc .str, .sc (.int .i64)] }),
  (10, { ps := [(.agg sValue)], vals := [.sc .bool] }),
  (11, { ps := [(.agg sValue)], vals := [.sc .str] }),
  (12, { ps := [(.agg sValue)], vals := [.sc (.int .i64)] }),
  (13, { ps := [(.agg sValue)], vals := [.sc .str] }),
  (14, { ps := [(.agg sValue)], vals := [.sc .str] }),
  (15, { ps := [(.agg sValue), (.agg sValue)], vals := [.sc .bool] }),
  (16, { ps := [(.agg sValue), (.agg sValue)], vals := [.sc (.int .i64)] }),
  (17, { tup := true, vals := [.agg sValue, .sc (.int .i64)] }),
  (18, { tup := true, vals := [.agg sValue, .sc (.int .i64)], excl := [(4, [0])] }),
  (19, { vals := [.ptr 62 sScanx] }),
  (20, { vals := [.agg sValue], blks := [.cells 0 sScanx] }),
  (21, { ps := [(.agg sScan)], tup := true, vals := [.agg sScan, .agg sValue], excl := [(13, [1, 2])] }),
  (22, { vals := [.sc (.int .i64)], blks := [.cells 0 sScanx] }),
  (23, { vals := [.sc (.int .i64)], blks := [.cells 0 sScanx] }),
  (24, { tup := true, vals := [.agg sValue, .sc (.int .i64)] }),
  (25, { tup := true, vals := [.agg sValue, .sc .bool] }),
  (26, { vals := [.sc .str] }),
  (27, { vals := [.sc .str] }),
  (28, { vals := [.sc .str] }),
  (29, { vals := [.sc (.int .u64)] }),
  (30, { vals := [.sc .str] }),
  (31, itoaSig),
  (32, { vals := [.sc .bool] }),
  (33, { vals := [.sc .str], excl := [(5, [0])] }),
  (34, { vals := [.sc .str] }),
  (35, { vals := [.sc .bool] }),
  (36, { vals := [.sc .str] }),
  (37, { ps := [(.sc (.list (.int .i64)))], vals := [.sc (.int .i64)] }),
  (38, { vals := [.sc (.int .i64)] }),
  (39, { vals := [.sc (.int .i64)] }),
  (40, { vals := [.sc (.int .i64)], blks := [.cells 0 sScanx], excl := [(1, [0])] }),
  (41, { ps := [(.agg sScan)], vals := [.agg sScan] }),
  (42, { vals := [.sc (.int .i64)], blks := [.cells 0 sScanx] }),
  (43, { vals := [.sc (.int .i64)], blks := [.cells 0 sScanx] }),
  (44, { vals := [.sc .str], blks := [.cells 0 sScanx] }),
  (45, { tup := true, blks := [.cells 0 sScanx] }),
  (46, { ps := [(.agg sScan)], tup := true, vals := [.agg sScan, .sc (.int .i64)], excl := [(4, [1])] }),
  (47, { ps := [(.agg sScan)], tup := true, vals := [.agg sScan, .sc (.int .i64)], excl := [(8, [1])] }),
  (48, { ps := [(.agg sScan), .raw], tup := true, vals := [.agg sScan, .sc .str] }),
  (49, { tup := true, vals := [.agg sValue, .sc .bool], excl := [(11, [0])] }),
  (50, { tup := true, vals := [.sc .str, .sc .bool] }),
  (51, { tup := true, vals := [.sc (.int .i64), .sc .bool] }),
  (52, { vals := [.sc .str] }),
  (53, { vals := [.sc .str] }),
  (54, { vals := [.own (.int .i64)] }),
  (56, contSig 57 badR),
  (58, { vals := [.sc .str] }),
  (59, { vals := [.sc .str] }),
  (60, { vals := [.sc .bool] }),
  (61, { vals := [.sc (.int .i64)] }),
  (62, { vals := [.sc .str], blks := [.cells 0 sScanx] }),
  (63, { tup := true, vals := [.sc (.int .i64), .sc (.int .i64), .sc .bool] }),
  (64, { tup := true, blks := [.cells 0 sScanx] }),
  (65, { vals := [.sc (.int .i64)], blks := [.cells 0 sScanx] }),
  (66, { ps := [(.agg sScan), .raw], tup := true, vals := [.agg sScan, .sc .str] }),
  (67, { tup := true, vals := [.sc (.int .u64), .sc (.int .i64), .sc .bool] }),
  (68, { vals := [.sc (.int .i64)] }),
  (69, { ps := [(.agg sScan), .raw], tup := true, vals := [.agg sScan, .sc (.int .i64)] }),
  (70, { vals := [.sc .bool] }),
  (71, { tup := true, vals := [.sc .str, .sc .bool], coer := [(4, (.own (.int .u8)))] }),
  (72, atoiSig),
  (73, { vals := [.sc (.int .i64)] }),
  (74, { vals := [.sc (.int .u64)] }),
  (77, { op := some opCompare }),
  (78, { tup := true, vals := [.sc (.int .u64), .sc (.int .i64), .sc .bool] }),
  (79, { vals := [.sc (.int .i64)] }),
  (80, { vals := [.sc .bool] }),
  (81, { vals := [.sc (.int .u8)] })]
abbrev sg : FuncId → Sig := sigOf sgT
noncomputable def F.value_Check (K : Nat) (a0 : TValue) : Option (Int) := evFn Tryd.prog sg K 12 [.agg [.val (.int .i64 a0.1), .val (.int .i64 a0.2.1), .val (.string a0.2.2)]] []
noncomputable def F.value_Check.B (a0 : TValue) : Option (Int) :=
    (bif (a0.1 == 1) then (bif (a0.2.1 == 0) then (bif (!(strEq a0.2.2 (⟨#[]⟩ : ByteArray))) then (some 2) else (some 0)) else (bif (a0.2.1 == 1) then (bif (!(strEq a0.2.2 (⟨#[]⟩ : ByteArray))) then (some 2) else (some 0)) else (some 2))) else (bif (a0.1 == 2) then (bif (!(strEq a0.2.2 (⟨#[]⟩ : ByteArray))) then (some 2) else (some 0)) else (bif (a0.1 == 3) then (bif (a0.2.1 == 0) then (bif (!(decide ((a0.2.2.size : Int) ≤ 64))) then (some 2) else (some 0)) else (some 2)) else (some 2))))
theorem F.value_Check.eq K a0 : F.value_Check (K + 1) a0 = F.value_Check.B a0 := by kernel_rfl
noncomputable def V.value_Check (a0 : TValue) := lim fun v => F.value_Check (v 0) a0
theorem V.value_Check.of a0 {r} (h : F.value_Check.B a0 = some r) : V.value_Check a0 = some r :=
  App.to (App.step 0 (fun v => F.value_Check.eq (v 0) a0) (by unfold F.value_Check.B; repeat' first | apply App.guard | apply App.cond | exact App.lim | exact App.val | exact App.no | apply App.meet | apply App.ite | refine App.bind ?_ fun _ => ?_)) h
noncomputable def F.varint_Zig (K : Nat) (a0 : Int) : Option (Int) := evFn Tryd.prog sg K 74 [.sc (.val (.int .i64 a0))] []
noncomputable def F.varint_Zig.B (a0 : Int) : Option (Int) :=
    (some (IntKind.wrap .u64 ((BitVec.ofInt 64 (IntKind.wrap .u64 ((IntKind.wrap .u64 a0) * 2 ^ 1)) ^^^ BitVec.ofInt 64 (IntKind.wrap .u64 (Int.fdiv a0 (2 ^ 63)))).toNat : Int)))
theorem F.varint_Zig.eq K a0 : F.varint_Zig (K + 1) a0 = F.varint_Zig.B a0 := by kernel_rfl
noncomputable def V.varint_Zig (a0 : Int) := lim fun v => F.varint_Zig (v 0) a0
theorem V.varint_Zig.of a0 {r} (h : F.varint_Zig.B a0 = some r) : V.varint_Zig a0 = some r :=
  App.to (App.step 0 (fun v => F.varint_Zig.eq (v 0) a0) (by unfold F.varint_Zig.B; repeat' first | apply App.guard | apply App.cond | exact App.lim | exact App.val | exact App.no | apply App.meet | apply App.ite | refine App.bind ?_ fun _ => ?_)) h
noncomputable def F.varint_Put (K : Nat) (a0 : Int) : Option (ByteArray) := evFn Tryd.prog sg K 53 [.sc (.val (.int .u64 a0))] []
noncomputable def F.varint_Put.at (K : Nat) (p ns : List Nat) (s : St) : Option (ByteArray) := atFn Tryd.prog sg K 53 0 p ns s
noncomputable def F.varint_Put.in (K : Nat) (H : List Nat → List Nat → St → Option (ByteArray)) (p ns : List Nat) (s : St) : Option (ByteArray) := inFn Tryd.prog sg K 53 0 [] H p ns s
theorem F.varint_Put.in_eq K p ns s : F.varint_Put.at K p ns s = F.varint_Put.in K (F.varint_Put.at K) p ns s := atFn_eq (P := Tryd.prog) (sg := sg) (K := K) (f := 53) (m := 0) [] p ns s
theorem F.varint_Put.in_main K a0 : F.varint_Put (K + 1) a0 = F.varint_Put.in K (F.varint_Put.at K) [] [] ⟨slots [.sc (.val (.int .u64 a0))] 0, []⟩ := evFn_eq (P := Tryd.prog) (sg := sg) (K := K) (f := 53) (args := [.sc (.val (.int .u64 a0))]) (σ := []) [] (by kernel_rfl)
def F.varint_Put.l11100.st (a0 : Int) (x0 : Int) (x1 : Int) (x2 : List Int) : St := ⟨[(0, .one (.sc (.val (.int .u64 x0)))), (3, .one (.sc (.eref 0 0 0))), (4, vI x1)], [.elems (.int .u8) x2]⟩
noncomputable def F.varint_Put.l11100 (K n0 : Nat) (a0 : Int) (x0 : Int) (x1 : Int) (x2 : List Int) := F.varint_Put.at K [1, 1, 1, 0, 0] [n0] (F.varint_Put.l11100.st a0 x0 x1 x2)
noncomputable def F.varint_Put.l11100.B (c0 : (Int) → (Int) → (Int) → (List Int) → Option (ByteArray)) (a0 : Int) (x0 : Int) (x1 : Int) (x2 : List Int) : Option (ByteArray) :=
    (bif (decide (x0 ≥ 128)) then (guardK (decide (0 ≤ x1) && decide (x1 < 10) && decide (x1 < (x2.length : Int))) (c0 a0 (Int.fdiv x0 (2 ^ 7)) (w64 (x1 + 1)) (x2.set x1.toNat (IntKind.wrap .u8 ((BitVec.ofInt 8 (IntKind.wrap .u8 x0) ||| BitVec.ofInt 8 128).toNat : Int))))) else (guardK (decide (0 ≤ x1) && decide (x1 < 10) && decide (x1 < (x2.length : Int))) (guardK (decide (0 ≤ (w64 (x1 + 1))) && decide ((w64 (x1 + 1)) ≤ 10) && decide (10 = (x2.set x1.toNat (IntKind.wrap .u8 x0)).length)) (some (bytesOf (((x2.set x1.toNat (IntKind.wrap .u8 x0)).take ((w64 (x1 + 1)).toNat)).drop 0))))))
theorem F.varint_Put.l11100.eq K n0 a0 x0 x1 x2 : F.varint_Put.l11100 K (n0 + 1) a0 x0 x1 x2 = F.varint_Put.l11100.B (F.varint_Put.l11100 K n0) a0 x0 x1 x2 := (F.varint_Put.in_eq K [1, 1, 1, 0, 0] [n0 + 1] (F.varint_Put.l11100.st a0 x0 x1 x2)).trans ((show ∀ H, F.varint_Put.in K H [1, 1, 1, 0, 0] [n0 + 1] (F.varint_Put.l11100.st a0 x0 x1 x2) = F.varint_Put.l11100.B (fun a0 x0 x1 x2 => H [1, 1, 1, 0, 0] [n0] (F.varint_Put.l11100.st a0 x0 x1 x2)) a0 x0 x1 x2 from by intro H; kernel_rfl) (F.varint_Put.at K))
noncomputable def F.varint_Put.B (c0 : (Int) → (Int) → (Int) → (List Int) → Option (ByteArray)) (a0 : Int) : Option (ByteArray) :=
    (c0 a0 a0 0 (repl 10 0))
theorem F.varint_Put.eq K a0 : F.varint_Put (K + 1) a0 = F.varint_Put.B (F.varint_Put.l11100 K K) a0 := (F.varint_Put.in_main K a0).trans ((show ∀ H, F.varint_Put.in K H [] [] ⟨slots [.sc (.val (.int .u64 a0))] 0, []⟩ = F.varint_Put.B (fun a0 x0 x1 x2 => H [1, 1, 1, 0, 0] [K] (F.varint_Put.l11100.st a0 x0 x1 x2)) a0 from by intro H; kernel_rfl) (F.varint_Put.at K))
noncomputable def V.varint_Put.l11100 (a0 : Int) (x0 : Int) (x1 : Int) (x2 : List Int) := lim fun v => F.varint_Put.l11100 (v 0) (v 1) a0 x0 x1 x2
noncomputable def V.varint_Put (a0 : Int) := lim fun v => F.varint_Put (v 0) a0
theorem V.varint_Put.l11100.of a0 x0 x1 x2 {r} (h : F.varint_Put.l11100.B V.varint_Put.l11100 a0 x0 x1 x2 = some r) : V.varint_Put.l11100 a0 x0 x1 x2 = some r :=
  App.to (App.step 1 (fun v => F.varint_Put.l11100.eq (v 0) (v 1) a0 x0 x1 x2) (by unfold F.varint_Put.l11100.B; repeat' first | apply App.guard | apply App.cond | exact App.lim | exact App.val | exact App.no | apply App.meet | apply App.ite | refine App.bind ?_ fun _ => ?_)) h
theorem V.varint_Put.of a0 {r} (h : F.varint_Put.B V.varint_Put.l11100 a0 = some r) : V.varint_Put a0 = some r :=
  App.to (App.step 0 (fun v => F.varint_Put.eq (v 0) a0) (by unfold F.varint_Put.B; repeat' first | apply App.guard | apply App.cond | exact App.lim | exact (App.enter 1 App.lim) | exact App.val | exact App.no | apply App.meet | apply App.ite | refine App.bind ?_ fun _ => ?_)) h
noncomputable def F.varint_Int (K : Nat) (a0 : Int) : Option (ByteArray) := evFn Tryd.prog sg K 52 [.sc (.val (.int .i64 a0))] []
noncomputable def F.varint_Int.B (c0 : (Int) → Option (Int)) (c1 : (Int) → Option (ByteArray)) (a0 : Int) : Option (ByteArray) :=
    ((c0 a0).bind fun t0 => ((c1 t0).bind fun t1 => (some t1)))
theorem F.varint_Int.eq K a0 : F.varint_Int (K + 1) a0 = F.varint_Int.B (F.varint_Zig K) (F.varint_Put K) a0 := by kernel_rfl
noncomputable def V.varint_Int (a0 : Int) := lim fun v => F.varint_Int (v 0) a0
theorem V.varint_Int.of a0 {r} (h : F.varint_Int.B V.varint_Zig V.varint_Put a0 = some r) : V.varint_Int a0 = some r :=
  App.to (App.step 0 (fun v => F.varint_Int.eq (v 0) a0) (by unfold F.varint_Int.B; repeat' first | apply App.guard | apply App.cond | exact App.lim | exact App.val | exact App.no | apply App.meet | apply App.ite | refine App.bind ?_ fun _ => ?_)) h
noncomputable def F.scan_PutInt (K : Nat) (a0 : Int) : Option (ByteArray) := evFn Tryd.prog sg K 26 [.sc (.val (.int .i64 a0))] []
noncomputable def F.scan_PutInt.B (c0 : (Int) → Option (ByteArray)) (a0 : Int) : Option (ByteArray) :=
    ((c0 a0).bind fun t0 => (some t0))
theorem F.scan_PutInt.eq K a0 : F.scan_PutInt (K + 1) a0 = F.scan_PutInt.B (F.varint_Int K) a0 := by kernel_rfl
noncomputable def V.scan_PutInt (a0 : Int) := lim fun v => F.scan_PutInt (v 0) a0
theorem V.scan_PutInt.of a0 {r} (h : F.scan_PutInt.B V.varint_Int a0 = some r) : V.scan_PutInt a0 = some r :=
  App.to (App.step 0 (fun v => F.scan_PutInt.eq (v 0) a0) (by unfold F.scan_PutInt.B; repeat' first | apply App.guard | apply App.cond | exact App.lim | exact App.val | exact App.no | apply App.meet | apply App.ite | refine App.bind ?_ fun _ => ?_)) h
noncomputable def F.scan_PutText (K : Nat) (a0 : ByteArray) : Option (ByteArray) := evFn Tryd.prog sg K 27 [.sc (.val (.string a0))] []
noncomputable def F.scan_PutText.B (c0 : (Int) → Option (ByteArray)) (a0 : ByteArray) : Option (ByteArray) :=
    ((c0 (IntKind.wrap .u64 (a0.size : Int))).bind fun t0 => (guardK (decide (t0.size + a0.size ≤ i64max)) (some (t0 ++ a0))))
theorem F.scan_PutText.eq K a0 : F.scan_PutText (K + 1) a0 = F.scan_PutText.B (F.varint_Put K) a0 := by kernel_rfl
noncomputable def V.scan_PutText (a0 : ByteArray) := lim fun v => F.scan_PutText (v 0) a0
theorem V.scan_PutText.of a0 {r} (h : F.scan_PutText.B V.varint_Put a0 = some r) : V.scan_PutText a0 = some r :=
  App.to (App.step 0 (fun v => F.scan_PutText.eq (v 0) a0) (by unfold F.scan_PutText.B; repeat' first | apply App.guard | apply App.cond | exact App.lim | exact App.val | exact App.no | apply App.meet | apply App.ite | refine App.bind ?_ fun _ => ?_)) h
noncomputable def F.value_Put (K : Nat) (a0 : TValue) : Option (ByteArray × Int) := evFn Tryd.prog sg K 9 [.agg [.val (.int .i64 a0.1), .val (.int .i64 a0.2.1), .val (.string a0.2.2)]] []
noncomputable def F.value_Put.B (c0 : (TValue) → Option (Int)) (c1 : (Int) → Option (ByteArray)) (c2 : (ByteArray) → Option (ByteArray)) (a0 : TValue) : Option (ByteArray × Int) :=
    ((c0 (a0.1, a0.2.1, a0.2.2)).bind fun t0 => (bif (t0 != 0) then (some ((⟨#[]⟩ : ByteArray), t0)) else (bif (a0.1 == 1) then (guardK (decide ((bytesOf ([(IntKind.wrap .u8 a0.1)])).size + (bytesOf ([(IntKind.wrap .u8 a0.2.1)])).size ≤ i64max)) (some (((bytesOf ([(IntKind.wrap .u8 a0.1)])) ++ (bytesOf ([(IntKind.wrap .u8 a0.2.1)]))), 0))) else (bif (a0.1 == 2) then ((c1 a0.2.1).bind fun t1 => (guardK (decide ((bytesOf ([(IntKind.wrap .u8 a0.1)])).size + t1.size ≤ i64max)) (some (((bytesOf ([(IntKind.wrap .u8 a0.1)])) ++ t1), 0)))) else ((c2 a0.2.2).bind fun t2 => (guardK (decide ((bytesOf ([(IntKind.wrap .u8 a0.1)])).size + t2.size ≤ i64max)) (some (((bytesOf ([(IntKind.wrap .u8 a0.1)])) ++ t2), 0))))))))
theorem F.value_Put.eq K a0 : F.value_Put (K + 1) a0 = F.value_Put.B (F.value_Check K) (F.scan_PutInt K) (F.scan_PutText K) a0 := by kernel_rfl
noncomputable def V.value_Put (a0 : TValue) := lim fun v => F.value_Put (v 0) a0
theorem V.value_Put.of a0 {r} (h : F.value_Put.B V.value_Check V.scan_PutInt V.scan_PutText a0 = some r) : V.value_Put a0 = some r :=
  App.to (App.step 0 (fun v => F.value_Put.eq (v 0) a0) (by unfold F.value_Put.B; repeat' first | apply App.guard | apply App.cond | exact App.lim | exact App.val | exact App.no | apply App.meet | apply App.ite | refine App.bind ?_ fun _ => ?_)) h
noncomputable def F.strconv_Itoa (K : Nat) (a0 : Int) : Option (ByteArray) := evFn Tryd.prog sg K 31 [.sc (.val (.int .i64 a0))] []
noncomputable def F.strconv_Itoa.B (a0 : Int) : Option (ByteArray) :=
    (itoaB a0)
theorem F.strconv_Itoa.eq K a0 : F.strconv_Itoa (K + 1) a0 = F.strconv_Itoa.B a0 := by kernel_rfl
noncomputable def V.strconv_Itoa (a0 : Int) := lim fun v => F.strconv_Itoa (v 0) a0
theorem V.strconv_Itoa.of a0 {r} (h : F.strconv_Itoa.B a0 = some r) : V.strconv_Itoa a0 = some r :=
  App.to (App.step 0 (fun v => F.strconv_Itoa.eq (v 0) a0) App.const) h
noncomputable def F.strings_ContainsFunc_by_value_plain_1 (K : Nat) (a0 : ByteArray) : Option (Bool) := evFn Tryd.prog sg K 56 [.sc (.val (.string a0)), .sc (.fn 57 [])] []
noncomputable def F.strings_ContainsFunc_by_value_plain_1.B (a0 : ByteArray) : Option (Bool) :=
    (some (hasR badR a0))
theorem F.strings_ContainsFunc_by_value_plain_1.eq K a0 : F.strings_ContainsFunc_by_value_plain_1 (K + 1) a0 = F.strings_ContainsFunc_by_value_plain_1.B a0 := by kernel_rfl
noncomputable def V.strings_ContainsFunc_by_value_plain_1 (a0 : ByteArray) := lim fun v => F.strings_ContainsFunc_by_value_plain_1 (v 0) a0
theorem V.strings_ContainsFunc_by_value_plain_1.of a0 {r} (h : F.strings_ContainsFunc_by_value_plain_1.B a0 = some r) : V.strings_ContainsFunc_by_value_plain_1 a0 = some r :=
  App.to (App.step 0 (fun v => F.strings_ContainsFunc_by_value_plain_1.eq (v 0) a0) App.const) h
noncomputable def F.value_plain (K : Nat) (a0 : ByteArray) : Option (Bool) := evFn Tryd.prog sg K 32 [.sc (.val (.string a0))] []
noncomputable def F.value_plain.B (c0 : (ByteArray) → Option (Bool)) (a0 : ByteArray) : Option (Bool) :=
    ((c0 a0).bind fun t0 => (some (!t0)))
theorem F.value_plain.eq K a0 : F.value_plain (K + 1) a0 = F.value_plain.B (F.strings_ContainsFunc_by_value_plain_1 K) a0 := by kernel_rfl
noncomputable def V.value_plain (a0 : ByteArray) := lim fun v => F.value_plain (v 0) a0
theorem V.value_plain.of a0 {r} (h : F.value_plain.B V.strings_ContainsFunc_by_value_plain_1 a0 = some r) : V.value_plain a0 = some r :=
  App.to (App.step 0 (fun v => F.value_plain.eq (v 0) a0) (by unfold F.value_plain.B; repeat' first | apply App.guard | apply App.cond | exact App.lim | exact App.val | exact App.no | apply App.meet | apply App.ite | refine App.bind ?_ fun _ => ?_)) h
noncomputable def F.sha_Hex (K : Nat) (a0 : ByteArray) : Option (ByteArray) := evFn Tryd.prog sg K 33 [.sc (.val (.string a0))] []
noncomputable def F.sha_Hex.at (K : Nat) (p ns : List Nat) (s : St) : Option (ByteArray) := atFn Tryd.prog sg K 33 0 p ns s
noncomputable def F.sha_Hex.in (K : Nat) (H : List Nat → List Nat → St → Option (ByteArray)) (p ns : List Nat) (s : St) : Option (ByteArray) := inFn Tryd.prog sg K 33 0 [] H p ns s
theorem F.sha_Hex.in_eq K p ns s : F.sha_Hex.at K p ns s = F.sha_Hex.in K (F.sha_Hex.at K) p ns s := atFn_eq (P := Tryd.prog) (sg := sg) (K := K) (f := 33) (m := 0) [] p ns s
theorem F.sha_Hex.in_main K a0 : F.sha_Hex (K + 1) a0 = F.sha_Hex.in K (F.sha_Hex.at K) [] [] ⟨slots [.sc (.val (.string a0))] 0, []⟩ := evFn_eq (P := Tryd.prog) (sg := sg) (K := K) (f := 33) (args := [.sc (.val (.string a0))]) (σ := []) [] (by kernel_rfl)
def F.sha_Hex.l11010.st (a0 : ByteArray) (x0 : Int) (x1 : List Int) : St := ⟨[(0, vS a0), (3, .one (.sc (.own 0 none))), (10, vI (a0.size : Int)), (11, vI x0)], [.elems (.int .u8) x1]⟩
noncomputable def F.sha_Hex.l11010 (K n0 : Nat) (a0 : ByteArray) (x0 : Int) (x1 : List Int) := F.sha_Hex.at K [1, 1, 0, 1, 0] [n0] (F.sha_Hex.l11010.st a0 x0 x1)
noncomputable def F.sha_Hex.l11010.B (c0 : (ByteArray) → (Int) → (List Int) → Option (ByteArray)) (a0 : ByteArray) (x0 : Int) (x1 : List Int) : Option (ByteArray) :=
    (bif (decide (x0 < (a0.size : Int))) then (guardK (decide (0 ≤ x0) && decide (x0 < (a0.size : Int))) (guardK (decide (0 ≤ (Int.fdiv (byteAt a0 x0) (2 ^ 4))) && decide ((Int.fdiv (byteAt a0 x0) (2 ^ 4)) < ((⟨#[48, 49, 50, 51, 52, 53, 54, 55, 56, 57, 97, 98, 99, 100, 101, 102]⟩ : ByteArray).size : Int))) (guardK (decide (0 ≤ x0) && decide (x0 < (a0.size : Int))) (guardK (decide (0 ≤ (IntKind.wrap .u8 ((BitVec.ofInt 8 (byteAt a0 x0) &&& BitVec.ofInt 8 15).toNat : Int))) && decide ((IntKind.wrap .u8 ((BitVec.ofInt 8 (byteAt a0 x0) &&& BitVec.ofInt 8 15).toNat : Int)) < ((⟨#[48, 49, 50, 51, 52, 53, 54, 55, 56, 57, 97, 98, 99, 100, 101, 102]⟩ : ByteArray).size : Int))) (guardK (decide (x1.length + ([(byteAt (⟨#[48, 49, 50, 51, 52, 53, 54, 55, 56, 57, 97, 98, 99, 100, 101, 102]⟩ : ByteArray) (Int.fdiv (byteAt a0 x0) (2 ^ 4))), (byteAt (⟨#[48, 49, 50, 51, 52, 53, 54, 55, 56, 57, 97, 98, 99, 100, 101, 102]⟩ : ByteArray) (IntKind.wrap .u8 ((BitVec.ofInt 8 (byteAt a0 x0) &&& BitVec.ofInt 8 15).toNat : Int)))]).length ≤ nmax)) (c0 a0 (w64 (x0 + 1)) (x1 ++ [(byteAt (⟨#[48, 49, 50, 51, 52, 53, 54, 55, 56, 57, 97, 98, 99, 100, 101, 102]⟩ : ByteArray) (Int.fdiv (byteAt a0 x0) (2 ^ 4))), (byteAt (⟨#[48, 49, 50, 51, 52, 53, 54, 55, 56, 57, 97, 98, 99, 100, 101, 102]⟩ : ByteArray) (IntKind.wrap .u8 ((BitVec.ofInt 8 (byteAt a0 x0) &&& BitVec.ofInt 8 15).toNat : Int)))]))))))) else (some (bytesOf x1)))
theorem F.sha_Hex.l11010.eq K n0 a0 x0 x1 : F.sha_Hex.l11010 K (n0 + 1) a0 x0 x1 = F.sha_Hex.l11010.B (F.sha_Hex.l11010 K n0) a0 x0 x1 := (F.sha_Hex.in_eq K [1, 1, 0, 1, 0] [n0 + 1] (F.sha_Hex.l11010.st a0 x0 x1)).trans ((show ∀ H, F.sha_Hex.in K H [1, 1, 0, 1, 0] [n0 + 1] (F.sha_Hex.l11010.st a0 x0 x1) = F.sha_Hex.l11010.B (fun a0 x0 x1 => H [1, 1, 0, 1, 0] [n0] (F.sha_Hex.l11010.st a0 x0 x1)) a0 x0 x1 from by intro H; kernel_rfl) (F.sha_Hex.at K))
noncomputable def F.sha_Hex.B (c0 : (ByteArray) → (Int) → (List Int) → Option (ByteArray)) (a0 : ByteArray) : Option (ByteArray) :=
    (guardK (decide (0 ≤ (w64 (2 * (a0.size : Int)))) && decide ((w64 (2 * (a0.size : Int))) ≤ 17179869184)) (c0 a0 0 ([])))
theorem F.sha_Hex.eq K a0 : F.sha_Hex (K + 1) a0 = F.sha_Hex.B (F.sha_Hex.l11010 K K) a0 := (F.sha_Hex.in_main K a0).trans ((show ∀ H, F.sha_Hex.in K H [] [] ⟨slots [.sc (.val (.string a0))] 0, []⟩ = F.sha_Hex.B (fun a0 x0 x1 => H [1, 1, 0, 1, 0] [K] (F.sha_Hex.l11010.st a0 x0 x1)) a0 from by intro H; kernel_rfl) (F.sha_Hex.at K))
noncomputable def V.sha_Hex.l11010 (a0 : ByteArray) (x0 : Int) (x1 : List Int) := lim fun v => F.sha_Hex.l11010 (v 0) (v 1) a0 x0 x1
noncomputable def V.sha_Hex (a0 : ByteArray) := lim fun v => F.sha_Hex (v 0) a0
theorem V.sha_Hex.l11010.of a0 x0 x1 {r} (h : F.sha_Hex.l11010.B V.sha_Hex.l11010 a0 x0 x1 = some r) : V.sha_Hex.l11010 a0 x0 x1 = some r :=
  App.to (App.step 1 (fun v => F.sha_Hex.l11010.eq (v 0) (v 1) a0 x0 x1) (by unfold F.sha_Hex.l11010.B; repeat' first | apply App.guard | apply App.cond | exact App.lim | exact App.val | exact App.no | apply App.meet | apply App.ite | refine App.bind ?_ fun _ => ?_)) h
theorem V.sha_Hex.of a0 {r} (h : F.sha_Hex.B V.sha_Hex.l11010 a0 = some r) : V.sha_Hex a0 = some r :=
  App.to (App.step 0 (fun v => F.sha_Hex.eq (v 0) a0) (by unfold F.sha_Hex.B; repeat' first | apply App.guard | apply App.cond | exact App.lim | exact (App.enter 1 App.lim) | exact App.val | exact App.no | apply App.meet | apply App.ite | refine App.bind ?_ fun _ => ?_)) h
noncomputable def F.value_Show (K : Nat) (a0 : TValue) : Option (ByteArray) := evFn Tryd.prog sg K 13 [.agg [.val (.int .i64 a0.1), .val (.int .i64 a0.2.1), .val (.string a0.2.2)]] []
noncomputable def F.value_Show.B (c0 : (TValue) → Option (Int)) (c1 : (Int) → Option (ByteArray)) (c2 : (ByteArray) → Option (Bool)) (c3 : (ByteArray) → Option (ByteArray)) (a0 : TValue) : Option (ByteArray) :=
    ((c0 (a0.1, a0.2.1, a0.2.2)).bind fun t0 => (bif (t0 != 0) then (some (⟨#[]⟩ : ByteArray)) else (bif (a0.1 == 1) then (bif (a0.2.1 == 1) then (some (⟨#[116, 114, 117, 101]⟩ : ByteArray)) else (bif (a0.1 == 1) then (some (⟨#[102, 97, 108, 115, 101]⟩ : ByteArray)) else (bif (a0.1 == 2) then ((c1 a0.2.1).bind fun t1 => (some t1)) else ((c2 a0.2.2).bind fun t2 => (bif t2 then (guardK (decide ((⟨#[39]⟩ : ByteArray).size + a0.2.2.size ≤ i64max)) (some ((⟨#[39]⟩ : ByteArray) ++ a0.2.2))) else ((c3 a0.2.2).bind fun t3 => (guardK (decide ((⟨#[35]⟩ : ByteArray).size + t3.size ≤ i64max)) (some ((⟨#[35]⟩ : ByteArray) ++ t3))))))))) else (bif (a0.1 == 1) then (some (⟨#[102, 97, 108, 115, 101]⟩ : ByteArray)) else (bif (a0.1 == 2) then ((c1 a0.2.1).bind fun t4 => (some t4)) else ((c2 a0.2.2).bind fun t5 => (bif t5 then (guardK (decide ((⟨#[39]⟩ : ByteArray).size + a0.2.2.size ≤ i64max)) (some ((⟨#[39]⟩ : ByteArray) ++ a0.2.2))) else ((c3 a0.2.2).bind fun t6 => (guardK (decide ((⟨#[35]⟩ : ByteArray).size + t6.size ≤ i64max)) (some ((⟨#[35]⟩ : ByteArray) ++ t6)))))))))))
theorem F.value_Show.eq K a0 : F.value_Show (K + 1) a0 = F.value_Show.B (F.value_Check K) (F.strconv_Itoa K) (F.value_plain K) (F.sha_Hex K) a0 := by kernel_rfl
noncomputable def V.value_Show (a0 : TValue) := lim fun v => F.value_Show (v 0) a0
theorem V.value_Show.of a0 {r} (h : F.value_Show.B V.value_Check V.strconv_Itoa V.value_plain V.sha_Hex a0 = some r) : V.value_Show a0 = some r :=
  App.to (App.step 0 (fun v => F.value_Show.eq (v 0) a0) (by unfold F.value_Show.B; repeat' first | apply App.guard | apply App.cond | exact App.lim | exact App.val | exact App.no | apply App.meet | apply App.ite | refine App.bind ?_ fun _ => ?_)) h
noncomputable def F.pleachlaw06_awake (K : Nat) : Option (Bool) := evFn Tryd.prog sg K 8 [] []
noncomputable def F.pleachlaw06_awake.B (c0 : (TValue) → Option (ByteArray × Int)) (c1 : (TValue) → Option (ByteArray)) : Option (Bool) :=
    ((c0 (2, (-1), (⟨#[]⟩ : ByteArray))).bind fun t0 => (bif (strEq t0.1 (⟨#[2, 1]⟩ : ByteArray)) then (bif (t0.2 == 0) then ((c1 (3, 0, (⟨#[97, 32, 98]⟩ : ByteArray))).bind fun t1 => (some (strEq t1 (⟨#[35, 54, 49, 50, 48, 54, 50]⟩ : ByteArray)))) else (some false)) else (some false)))
theorem F.pleachlaw06_awake.eq K : F.pleachlaw06_awake (K + 1) = F.pleachlaw06_awake.B (F.value_Put K) (F.value_Show K) := by kernel_rfl
noncomputable def V.pleachlaw06_awake := lim fun v => F.pleachlaw06_awake (v 0)
theorem V.pleachlaw06_awake.of {r} (h : F.pleachlaw06_awake.B V.value_Put V.value_Show = some r) : V.pleachlaw06_awake = some r :=
  App.to (App.step 0 (fun v => F.pleachlaw06_awake.eq (v 0)) (by unfold F.pleachlaw06_awake.B; repeat' first | apply App.guard | apply App.cond | exact App.lim | exact App.val | exact App.no | apply App.meet | apply App.ite | refine App.bind ?_ fun _ => ?_)) h
noncomputable def F.scan_New (K : Nat) (a0 : ByteArray) : Option (TScanx) := evFn Tryd.prog sg K 19 [.sc (.val (.string a0))] []
noncomputable def F.scan_New.B (a0 : ByteArray) : Option (TScanx) :=
    (some (a0, 0, 0, true))
theorem F.scan_New.eq K a0 : F.scan_New (K + 1) a0 = F.scan_New.B a0 := by kernel_rfl
noncomputable def V.scan_New (a0 : ByteArray) := lim fun v => F.scan_New (v 0) a0
theorem V.scan_New.of a0 {r} (h : F.scan_New.B a0 = some r) : V.scan_New a0 = some r :=
  App.to (App.step 0 (fun v => F.scan_New.eq (v 0) a0) (by unfold F.scan_New.B; repeat' first | apply App.guard | apply App.cond | exact App.lim | exact App.val | exact App.no | apply App.meet | apply App.ite | refine App.bind ?_ fun _ => ?_)) h
noncomputable def F.scan_Scan_Err (K : Nat) (a0 : TScanx) : Option (Int × TScanx) := evFn Tryd.prog sg K 22 [.sc (.ref 0 0)] [.cells 62 [.val (.string a0.1), .val (.int .i64 a0.2.1), .val (.int .i64 a0.2.2.1), .val (.bool a0.2.2.2)]]
noncomputable def F.scan_Scan_Err.B (a0 : TScanx) : Option (Int × TScanx) :=
    (bif (!a0.2.2.2) then (some (1, a0.1, a0.2.1, a0.2.2.1, a0.2.2.2)) else (some (a0.2.2.1, a0.1, a0.2.1, a0.2.2.1, a0.2.2.2)))
theorem F.scan_Scan_Err.eq K a0 : F.scan_Scan_Err (K + 1) a0 = F.scan_Scan_Err.B a0 := by kernel_rfl
noncomputable def V.scan_Scan_Err (a0 : TScanx) := lim fun v => F.scan_Scan_Err (v 0) a0
theorem V.scan_Scan_Err.of a0 {r} (h : F.scan_Scan_Err.B a0 = some r) : V.scan_Scan_Err a0 = some r :=
  App.to (App.step 0 (fun v => F.scan_Scan_Err.eq (v 0) a0) (by unfold F.scan_Scan_Err.B; repeat' first | apply App.guard | apply App.cond | exact App.lim | exact App.val | exact App.no | apply App.meet | apply App.ite | refine App.bind ?_ fun _ => ?_)) h
noncomputable def F.scan_Scan_take (K : Nat) (a0 : TScanx) (a1 : Int) : Option (ByteArray × TScanx) := evFn Tryd.prog sg K 62 [.sc (.ref 0 0), .sc (.val (.int .i64 a1))] [.cells 62 [.val (.string a0.1), .val (.int .i64 a0.2.1), .val (.int .i64 a0.2.2.1), .val (.bool a0.2.2.2)]]
noncomputable def F.scan_Scan_take.B (c0 : (TScanx) → Option (Int × TScanx)) (a0 : TScanx) (a1 : Int) : Option (ByteArray × TScanx) :=
    ((c0 (a0.1, a0.2.1, a0.2.2.1, a0.2.2.2)).bind fun t0 => (bif (t0.1 != 0) then (some ((⟨#[]⟩ : ByteArray), t0.2.1, t0.2.2.1, t0.2.2.2.1, t0.2.2.2.2)) else (bif (decide (a1 < 0)) then (some ((⟨#[]⟩ : ByteArray), t0.2.1, t0.2.2.1, 3, t0.2.2.2.2)) else (bif (decide (a1 > (w64 ((t0.2.1.size : Int) - t0.2.2.1)))) then (some ((⟨#[]⟩ : ByteArray), t0.2.1, t0.2.2.1, 3, t0.2.2.2.2)) else (guardK (decide (0 ≤ t0.2.2.1) && decide (t0.2.2.1 ≤ (w64 (t0.2.2.1 + a1))) && decide ((w64 (t0.2.2.1 + a1)) ≤ (t0.2.1.size : Int))) (some ((t0.2.1.extract t0.2.2.1.toNat (w64 (t0.2.2.1 + a1)).toNat), t0.2.1, (w64 (t0.2.2.1 + a1)), t0.2.2.2.1, t0.2.2.2.2)))))))
theorem F.scan_Scan_take.eq K a0 a1 : F.scan_Scan_take (K + 1) a0 a1 = F.scan_Scan_take.B (F.scan_Scan_Err K) a0 a1 := by kernel_rfl
noncomputable def V.scan_Scan_take (a0 : TScanx) (a1 : Int) := lim fun v => F.scan_Scan_take (v 0) a0 a1
theorem V.scan_Scan_take.of a0 a1 {r} (h : F.scan_Scan_take.B V.scan_Scan_Err a0 a1 = some r) : V.scan_Scan_take a0 a1 = some r :=
  App.to (App.step 0 (fun v => F.scan_Scan_take.eq (v 0) a0 a1) (by unfold F.scan_Scan_take.B; repeat' first | apply App.guard | apply App.cond | exact App.lim | exact App.val | exact App.no | apply App.meet | apply App.ite | refine App.bind ?_ fun _ => ?_)) h
noncomputable def F.scan_Scan_Byte (K : Nat) (a0 : TScanx) : Option (Int × TScanx) := evFn Tryd.prog sg K 42 [.sc (.ref 0 0)] [.cells 62 [.val (.string a0.1), .val (.int .i64 a0.2.1), .val (.int .i64 a0.2.2.1), .val (.bool a0.2.2.2)]]
noncomputable def F.scan_Scan_Byte.B (c0 : (TScanx) → (Int) → Option (ByteArray × TScanx)) (a0 : TScanx) : Option (Int × TScanx) :=
    ((c0 (a0.1, a0.2.1, a0.2.2.1, a0.2.2.2) 1).bind fun t0 => (bif (strEq t0.1 (⟨#[]⟩ : ByteArray)) then (some (0, t0.2.1, t0.2.2.1, t0.2.2.2.1, t0.2.2.2.2)) else (guardK (decide (0 < (t0.1.size : Int))) (some ((w64 (byteAt t0.1 0)), t0.2.1, t0.2.2.1, t0.2.2.2.1, t0.2.2.2.2)))))
theorem F.scan_Scan_Byte.eq K a0 : F.scan_Scan_Byte (K + 1) a0 = F.scan_Scan_Byte.B (F.scan_Scan_take K) a0 := by kernel_rfl
noncomputable def V.scan_Scan_Byte (a0 : TScanx) := lim fun v => F.scan_Scan_Byte (v 0) a0
theorem V.scan_Scan_Byte.of a0 {r} (h : F.scan_Scan_Byte.B V.scan_Scan_take a0 = some r) : V.scan_Scan_Byte a0 = some r :=
  App.to (App.step 0 (fun v => F.scan_Scan_Byte.eq (v 0) a0) (by unfold F.scan_Scan_Byte.B; repeat' first | apply App.guard | apply App.cond | exact App.lim | exact App.val | exact App.no | apply App.meet | apply App.ite | refine App.bind ?_ fun _ => ?_)) h
noncomputable def F.scan_Scan_fail (K : Nat) (a0 : TScanx) (a1 : Int) : Option (TScanx) := evFn Tryd.prog sg K 64 [.sc (.ref 0 0), .sc (.val (.int .i64 a1))] [.cells 62 [.val (.string a0.1), .val (.int .i64 a0.2.1), .val (.int .i64 a0.2.2.1), .val (.bool a0.2.2.2)]]
noncomputable def F.scan_Scan_fail.B (c0 : (TScanx) → Option (Int × TScanx)) (a0 : TScanx) (a1 : Int) : Option (TScanx) :=
    ((c0 (a0.1, a0.2.1, a0.2.2.1, a0.2.2.2)).bind fun t0 => (bif (t0.1 == 0) then (some (t0.2.1, t0.2.2.1, a1, t0.2.2.2.2)) else (some (t0.2.1, t0.2.2.1, t0.2.2.2.1, t0.2.2.2.2))))
theorem F.scan_Scan_fail.eq K a0 a1 : F.scan_Scan_fail (K + 1) a0 a1 = F.scan_Scan_fail.B (F.scan_Scan_Err K) a0 a1 := by kernel_rfl
noncomputable def V.scan_Scan_fail (a0 : TScanx) (a1 : Int) := lim fun v => F.scan_Scan_fail (v 0) a0 a1
theorem V.scan_Scan_fail.of a0 a1 {r} (h : F.scan_Scan_fail.B V.scan_Scan_Err a0 a1 = some r) : V.scan_Scan_fail a0 a1 = some r :=
  App.to (App.step 0 (fun v => F.scan_Scan_fail.eq (v 0) a0 a1) (by unfold F.scan_Scan_fail.B; repeat' first | apply App.guard | apply App.cond | exact App.lim | exact App.val | exact App.no | apply App.meet | apply App.ite | refine App.bind ?_ fun _ => ?_)) h
noncomputable def F.scan_Scan_Fail (K : Nat) (a0 : TScanx) (a1 : Int) : Option (TScanx) := evFn Tryd.prog sg K 45 [.sc (.ref 0 0), .sc (.val (.int .i64 a1))] [.cells 62 [.val (.string a0.1), .val (.int .i64 a0.2.1), .val (.int .i64 a0.2.2.1), .val (.bool a0.2.2.2)]]
noncomputable def F.scan_Scan_Fail.B (c0 : (TScanx) → (Int) → Option (TScanx)) (a0 : TScanx) (a1 : Int) : Option (TScanx) :=
    (bif (a1 != 0) then ((c0 (a0.1, a0.2.1, a0.2.2.1, a0.2.2.2) a1).bind fun t0 => (some (t0.1, t0.2.1, t0.2.2.1, t0.2.2.2))) else (some (a0.1, a0.2.1, a0.2.2.1, a0.2.2.2)))
theorem F.scan_Scan_Fail.eq K a0 a1 : F.scan_Scan_Fail (K + 1) a0 a1 = F.scan_Scan_Fail.B (F.scan_Scan_fail K) a0 a1 := by kernel_rfl
noncomputable def V.scan_Scan_Fail (a0 : TScanx) (a1 : Int) := lim fun v => F.scan_Scan_Fail (v 0) a0 a1
theorem V.scan_Scan_Fail.of a0 a1 {r} (h : F.scan_Scan_Fail.B V.scan_Scan_fail a0 a1 = some r) : V.scan_Scan_Fail a0 a1 = some r :=
  App.to (App.step 0 (fun v => F.scan_Scan_Fail.eq (v 0) a0 a1) (by unfold F.scan_Scan_Fail.B; repeat' first | apply App.guard | apply App.cond | exact App.lim | exact App.val | exact App.no | apply App.meet | apply App.ite | refine App.bind ?_ fun _ => ?_)) h
noncomputable def F.varint_Get (K : Nat) (a0 : ByteArray) : Option (Int × Int × Bool) := evFn Tryd.prog sg K 78 [.sc (.val (.string a0))] []
noncomputable def F.varint_Get.at (K : Nat) (p ns : List Nat) (s : St) : Option (Int × Int × Bool) := atFn Tryd.prog sg K 78 0 p ns s
noncomputable def F.varint_Get.in (K : Nat) (H : List Nat → List Nat → St → Option (Int × Int × Bool)) (p ns : List Nat) (s : St) : Option (Int × Int × Bool) := inFn Tryd.prog sg K 78 0 [] H p ns s
theorem F.varint_Get.in_eq K p ns s : F.varint_Get.at K p ns s = F.varint_Get.in K (F.varint_Get.at K) p ns s := atFn_eq (P := Tryd.prog) (sg := sg) (K := K) (f := 78) (m := 0) [] p ns s
theorem F.varint_Get.in_main K a0 : F.varint_Get (K + 1) a0 = F.varint_Get.in K (F.varint_Get.at K) [] [] ⟨slots [.sc (.val (.string a0))] 0, []⟩ := evFn_eq (P := Tryd.prog) (sg := sg) (K := K) (f := 78) (args := [.sc (.val (.string a0))]) (σ := []) [] (by kernel_rfl)
def F.varint_Get.l1010.st (a0 : ByteArray) (x0 : Int) (x1 : Int) : St := ⟨[(0, vS a0), (2, .one (.sc (.val (.int .u64 x0)))), (9, vI (if 10 < (a0.size : Int) then 10 else (a0.size : Int))), (10, vI x1)], []⟩
noncomputable def F.varint_Get.l1010 (K n0 : Nat) (a0 : ByteArray) (x0 : Int) (x1 : Int) := F.varint_Get.at K [1, 0, 1, 0] [n0] (F.varint_Get.l1010.st a0 x0 x1)
noncomputable def F.varint_Get.l1010.B (c0 : (ByteArray) → (Int) → (Int) → Option (Int × Int × Bool)) (a0 : ByteArray) (x0 : Int) (x1 : Int) : Option (Int × Int × Bool) :=
    (bif (decide (x1 < (if 10 < (a0.size : Int) then 10 else (a0.size : Int)))) then (guardK (decide (0 ≤ x1) && decide (x1 < (a0.size : Int))) (bif (x1 == 9) then (bif (decide ((IntKind.wrap .u64 (byteAt a0 x1)) > 1)) then (some (0, 0, false)) else (if (w64 (7 * x1)) < 0 then none else (bif (decide ((IntKind.wrap .u64 (byteAt a0 x1)) ≥ 128)) then (c0 a0 (IntKind.wrap .u64 ((BitVec.ofInt 64 x0 ||| BitVec.ofInt 64 (IntKind.wrap .u64 ((IntKind.wrap .u64 ((BitVec.ofInt 64 (IntKind.wrap .u64 (byteAt a0 x1)) &&& BitVec.ofInt 64 127).toNat : Int)) * 2 ^ (min (w64 (7 * x1)).toNat 64)))).toNat : Int)) (w64 (x1 + 1))) else (bif ((IntKind.wrap .u64 (byteAt a0 x1)) == 0) then (bif (decide (x1 > 0)) then (some (0, 0, false)) else (some ((IntKind.wrap .u64 ((BitVec.ofInt 64 x0 ||| BitVec.ofInt 64 (IntKind.wrap .u64 ((IntKind.wrap .u64 ((BitVec.ofInt 64 (IntKind.wrap .u64 (byteAt a0 x1)) &&& BitVec.ofInt 64 127).toNat : Int)) * 2 ^ (min (w64 (7 * x1)).toNat 64)))).toNat : Int)), (w64 (x1 + 1)), true))) else (some ((IntKind.wrap .u64 ((BitVec.ofInt 64 x0 ||| BitVec.ofInt 64 (IntKind.wrap .u64 ((IntKind.wrap .u64 ((BitVec.ofInt 64 (IntKind.wrap .u64 (byteAt a0 x1)) &&& BitVec.ofInt 64 127).toNat : Int)) * 2 ^ (min (w64 (7 * x1)).toNat 64)))).toNat : Int)), (w64 (x1 + 1)), true)))))) else (if (w64 (7 * x1)) < 0 then none else (bif (decide ((IntKind.wrap .u64 (byteAt a0 x1)) ≥ 128)) then (c0 a0 (IntKind.wrap .u64 ((BitVec.ofInt 64 x0 ||| BitVec.ofInt 64 (IntKind.wrap .u64 ((IntKind.wrap .u64 ((BitVec.ofInt 64 (IntKind.wrap .u64 (byteAt a0 x1)) &&& BitVec.ofInt 64 127).toNat : Int)) * 2 ^ (min (w64 (7 * x1)).toNat 64)))).toNat : Int)) (w64 (x1 + 1))) else (bif ((IntKind.wrap .u64 (byteAt a0 x1)) == 0) then (bif (decide (x1 > 0)) then (some (0, 0, false)) else (some ((IntKind.wrap .u64 ((BitVec.ofInt 64 x0 ||| BitVec.ofInt 64 (IntKind.wrap .u64 ((IntKind.wrap .u64 ((BitVec.ofInt 64 (IntKind.wrap .u64 (byteAt a0 x1)) &&& BitVec.ofInt 64 127).toNat : Int)) * 2 ^ (min (w64 (7 * x1)).toNat 64)))).toNat : Int)), (w64 (x1 + 1)), true))) else (some ((IntKind.wrap .u64 ((BitVec.ofInt 64 x0 ||| BitVec.ofInt 64 (IntKind.wrap .u64 ((IntKind.wrap .u64 ((BitVec.ofInt 64 (IntKind.wrap .u64 (byteAt a0 x1)) &&& BitVec.ofInt 64 127).toNat : Int)) * 2 ^ (min (w64 (7 * x1)).toNat 64)))).toNat : Int)), (w64 (x1 + 1)), true))))))) else (some (0, 0, false)))
theorem F.varint_Get.l1010.eq K n0 a0 x0 x1 : F.varint_Get.l1010 K (n0 + 1) a0 x0 x1 = F.varint_Get.l1010.B (F.varint_Get.l1010 K n0) a0 x0 x1 := (F.varint_Get.in_eq K [1, 0, 1, 0] [n0 + 1] (F.varint_Get.l1010.st a0 x0 x1)).trans ((show ∀ H, F.varint_Get.in K H [1, 0, 1, 0] [n0 + 1] (F.varint_Get.l1010.st a0 x0 x1) = F.varint_Get.l1010.B (fun a0 x0 x1 => H [1, 0, 1, 0] [n0] (F.varint_Get.l1010.st a0 x0 x1)) a0 x0 x1 from by intro H; kernel_rfl) (F.varint_Get.at K))
noncomputable def F.varint_Get.B (c0 : (ByteArray) → (Int) → (Int) → Option (Int × Int × Bool)) (a0 : ByteArray) : Option (Int × Int × Bool) :=
    (c0 a0 0 0)
theorem F.varint_Get.eq K a0 : F.varint_Get (K + 1) a0 = F.varint_Get.B (F.varint_Get.l1010 K K) a0 := (F.varint_Get.in_main K a0).trans ((show ∀ H, F.varint_Get.in K H [] [] ⟨slots [.sc (.val (.string a0))] 0, []⟩ = F.varint_Get.B (fun a0 x0 x1 => H [1, 0, 1, 0] [K] (F.varint_Get.l1010.st a0 x0 x1)) a0 from by intro H; kernel_rfl) (F.varint_Get.at K))
noncomputable def V.varint_Get.l1010 (a0 : ByteArray) (x0 : Int) (x1 : Int) := lim fun v => F.varint_Get.l1010 (v 0) (v 1) a0 x0 x1
noncomputable def V.varint_Get (a0 : ByteArray) := lim fun v => F.varint_Get (v 0) a0
theorem V.varint_Get.l1010.of a0 x0 x1 {r} (h : F.varint_Get.l1010.B V.varint_Get.l1010 a0 x0 x1 = some r) : V.varint_Get.l1010 a0 x0 x1 = some r :=
  App.to (App.step 1 (fun v => F.varint_Get.l1010.eq (v 0) (v 1) a0 x0 x1) (by unfold F.varint_Get.l1010.B; repeat' first | apply App.guard | apply App.cond | exact App.lim | exact App.val | exact App.no | apply App.meet | apply App.ite | refine App.bind ?_ fun _ => ?_)) h
theorem V.varint_Get.of a0 {r} (h : F.varint_Get.B V.varint_Get.l1010 a0 = some r) : V.varint_Get a0 = some r :=
  App.to (App.step 0 (fun v => F.varint_Get.eq (v 0) a0) (by unfold F.varint_Get.B; repeat' first | apply App.guard | apply App.cond | exact App.lim | exact (App.enter 1 App.lim) | exact App.val | exact App.no | apply App.meet | apply App.ite | refine App.bind ?_ fun _ => ?_)) h
noncomputable def F.varint_Zag (K : Nat) (a0 : Int) : Option (Int) := evFn Tryd.prog sg K 79 [.sc (.val (.int .u64 a0))] []
noncomputable def F.varint_Zag.B (a0 : Int) : Option (Int) :=
    (some (w64 ((BitVec.ofInt 64 (w64 (Int.fdiv a0 (2 ^ 1))) ^^^ BitVec.ofInt 64 (w64 (0 - (w64 (IntKind.wrap .u64 ((BitVec.ofInt 64 a0 &&& BitVec.ofInt 64 1).toNat : Int)))))).toNat : Int)))
theorem F.varint_Zag.eq K a0 : F.varint_Zag (K + 1) a0 = F.varint_Zag.B a0 := by kernel_rfl
noncomputable def V.varint_Zag (a0 : Int) := lim fun v => F.varint_Zag (v 0) a0
theorem V.varint_Zag.of a0 {r} (h : F.varint_Zag.B a0 = some r) : V.varint_Zag a0 = some r :=
  App.to (App.step 0 (fun v => F.varint_Zag.eq (v 0) a0) (by unfold F.varint_Zag.B; repeat' first | apply App.guard | apply App.cond | exact App.lim | exact App.val | exact App.no | apply App.meet | apply App.ite | refine App.bind ?_ fun _ => ?_)) h
noncomputable def F.varint_GetInt (K : Nat) (a0 : ByteArray) : Option (Int × Int × Bool) := evFn Tryd.prog sg K 63 [.sc (.val (.string a0))] []
noncomputable def F.varint_GetInt.B (c0 : (ByteArray) → Option (Int × Int × Bool)) (c1 : (Int) → Option (Int)) (a0 : ByteArray) : Option (Int × Int × Bool) :=
    ((c0 a0).bind fun t0 => ((c1 t0.1).bind fun t1 => (some (t1, t0.2.1, t0.2.2))))
theorem F.varint_GetInt.eq K a0 : F.varint_GetInt (K + 1) a0 = F.varint_GetInt.B (F.varint_Get K) (F.varint_Zag K) a0 := by kernel_rfl
noncomputable def V.varint_GetInt (a0 : ByteArray) := lim fun v => F.varint_GetInt (v 0) a0
theorem V.varint_GetInt.of a0 {r} (h : F.varint_GetInt.B V.varint_Get V.varint_Zag a0 = some r) : V.varint_GetInt a0 = some r :=
  App.to (App.step 0 (fun v => F.varint_GetInt.eq (v 0) a0) (by unfold F.varint_GetInt.B; repeat' first | apply App.guard | apply App.cond | exact App.lim | exact App.val | exact App.no | apply App.meet | apply App.ite | refine App.bind ?_ fun _ => ?_)) h
noncomputable def F.scan_Scan_Int (K : Nat) (a0 : TScanx) : Option (Int × TScanx) := evFn Tryd.prog sg K 43 [.sc (.ref 0 0)] [.cells 62 [.val (.string a0.1), .val (.int .i64 a0.2.1), .val (.int .i64 a0.2.2.1), .val (.bool a0.2.2.2)]]
noncomputable def F.scan_Scan_Int.B (c0 : (TScanx) → Option (Int × TScanx)) (c1 : (ByteArray) → Option (Int × Int × Bool)) (c2 : (TScanx) → (Int) → Option (TScanx)) (a0 : TScanx) : Option (Int × TScanx) :=
    ((c0 (a0.1, a0.2.1, a0.2.2.1, a0.2.2.2)).bind fun t0 => (bif (t0.1 != 0) then (some (0, t0.2.1, t0.2.2.1, t0.2.2.2.1, t0.2.2.2.2)) else (guardK (decide (0 ≤ t0.2.2.1) && decide (t0.2.2.1 ≤ (t0.2.1.size : Int)) && decide ((t0.2.1.size : Int) ≤ (t0.2.1.size : Int))) ((c1 (t0.2.1.extract t0.2.2.1.toNat (t0.2.1.size : Int).toNat)).bind fun t1 => (bif (!t1.2.2) then ((c2 (t0.2.1, t0.2.2.1, t0.2.2.2.1, t0.2.2.2.2) 3).bind fun t2 => (some (0, t2.1, t2.2.1, t2.2.2.1, t2.2.2.2))) else (some (t1.1, t0.2.1, (w64 (t0.2.2.1 + t1.2.1)), t0.2.2.2.1, t0.2.2.2.2)))))))
theorem F.scan_Scan_Int.eq K a0 : F.scan_Scan_Int (K + 1) a0 = F.scan_Scan_Int.B (F.scan_Scan_Err K) (F.varint_GetInt K) (F.scan_Scan_fail K) a0 := by kernel_rfl
noncomputable def V.scan_Scan_Int (a0 : TScanx) := lim fun v => F.scan_Scan_Int (v 0) a0
theorem V.scan_Scan_Int.of a0 {r} (h : F.scan_Scan_Int.B V.scan_Scan_Err V.varint_GetInt V.scan_Scan_fail a0 = some r) : V.scan_Scan_Int a0 = some r :=
  App.to (App.step 0 (fun v => F.scan_Scan_Int.eq (v 0) a0) (by unfold F.scan_Scan_Int.B; repeat' first | apply App.guard | apply App.cond | exact App.lim | exact App.val | exact App.no | apply App.meet | apply App.ite | refine App.bind ?_ fun _ => ?_)) h
noncomputable def F.scan_Scan_Num (K : Nat) (a0 : TScanx) (a1 : Int) : Option (Int × TScanx) := evFn Tryd.prog sg K 65 [.sc (.ref 0 0), .sc (.val (.int .i64 a1))] [.cells 62 [.val (.string a0.1), .val (.int .i64 a0.2.1), .val (.int .i64 a0.2.2.1), .val (.bool a0.2.2.2)]]
noncomputable def F.scan_Scan_Num.B (c0 : (TScanx) → Option (Int × TScanx)) (c1 : (ByteArray) → Option (Int × Int × Bool)) (c2 : (TScanx) → (Int) → Option (TScanx)) (a0 : TScanx) (a1 : Int) : Option (Int × TScanx) :=
    ((c0 (a0.1, a0.2.1, a0.2.2.1, a0.2.2.2)).bind fun t0 => (bif (t0.1 != 0) then (some (0, t0.2.1, t0.2.2.1, t0.2.2.2.1, t0.2.2.2.2)) else (guardK (decide (0 ≤ t0.2.2.1) && decide (t0.2.2.1 ≤ (t0.2.1.size : Int)) && decide ((t0.2.1.size : Int) ≤ (t0.2.1.size : Int))) ((c1 (t0.2.1.extract t0.2.2.1.toNat (t0.2.1.size : Int).toNat)).bind fun t1 => (bif (!t1.2.2) then ((c2 (t0.2.1, t0.2.2.1, t0.2.2.2.1, t0.2.2.2.2) 3).bind fun t2 => (some (0, t2.1, t2.2.1, t2.2.2.1, t2.2.2.2))) else (bif (decide (a1 < 0)) then ((c2 (t0.2.1, t0.2.2.1, t0.2.2.2.1, t0.2.2.2.2) 5).bind fun t3 => (some (0, t3.1, t3.2.1, t3.2.2.1, t3.2.2.2))) else (bif (decide (t1.1 > (IntKind.wrap .u64 a1))) then ((c2 (t0.2.1, t0.2.2.1, t0.2.2.2.1, t0.2.2.2.2) 5).bind fun t4 => (some (0, t4.1, t4.2.1, t4.2.2.1, t4.2.2.2))) else (some ((w64 t1.1), t0.2.1, (w64 (t0.2.2.1 + t1.2.1)), t0.2.2.2.1, t0.2.2.2.2)))))))))
theorem F.scan_Scan_Num.eq K a0 a1 : F.scan_Scan_Num (K + 1) a0 a1 = F.scan_Scan_Num.B (F.scan_Scan_Err K) (F.varint_Get K) (F.scan_Scan_fail K) a0 a1 := by kernel_rfl
noncomputable def V.scan_Scan_Num (a0 : TScanx) (a1 : Int) := lim fun v => F.scan_Scan_Num (v 0) a0 a1
theorem V.scan_Scan_Num.of a0 a1 {r} (h : F.scan_Scan_Num.B V.scan_Scan_Err V.varint_Get V.scan_Scan_fail a0 a1 = some r) : V.scan_Scan_Num a0 a1 = some r :=
  App.to (App.step 0 (fun v => F.scan_Scan_Num.eq (v 0) a0 a1) (by unfold F.scan_Scan_Num.B; repeat' first | apply App.guard | apply App.cond | exact App.lim | exact App.val | exact App.no | apply App.meet | apply App.ite | refine App.bind ?_ fun _ => ?_)) h
noncomputable def F.scan_Scan_Text (K : Nat) (a0 : TScanx) (a1 : Int) : Option (ByteArray × TScanx) := evFn Tryd.prog sg K 44 [.sc (.ref 0 0), .sc (.val (.int .i64 a1))] [.cells 62 [.val (.string a0.1), .val (.int .i64 a0.2.1), .val (.int .i64 a0.2.2.1), .val (.bool a0.2.2.2)]]
noncomputable def F.scan_Scan_Text.B (c0 : (TScanx) → (Int) → Option (Int × TScanx)) (c1 : (TScanx) → (Int) → Option (ByteArray × TScanx)) (a0 : TScanx) (a1 : Int) : Option (ByteArray × TScanx) :=
    ((c0 (a0.1, a0.2.1, a0.2.2.1, a0.2.2.2) a1).bind fun t0 => ((c1 (t0.2.1, t0.2.2.1, t0.2.2.2.1, t0.2.2.2.2) t0.1).bind fun t1 => (some (t1.1, t1.2.1, t1.2.2.1, t1.2.2.2.1, t1.2.2.2.2))))
theorem F.scan_Scan_Text.eq K a0 a1 : F.scan_Scan_Text (K + 1) a0 a1 = F.scan_Scan_Text.B (F.scan_Scan_Num K) (F.scan_Scan_take K) a0 a1 := by kernel_rfl
noncomputable def V.scan_Scan_Text (a0 : TScanx) (a1 : Int) := lim fun v => F.scan_Scan_Text (v 0) a0 a1
theorem V.scan_Scan_Text.of a0 a1 {r} (h : F.scan_Scan_Text.B V.scan_Scan_Num V.scan_Scan_take a0 a1 = some r) : V.scan_Scan_Text a0 a1 = some r :=
  App.to (App.step 0 (fun v => F.scan_Scan_Text.eq (v 0) a0 a1) (by unfold F.scan_Scan_Text.B; repeat' first | apply App.guard | apply App.cond | exact App.lim | exact App.val | exact App.no | apply App.meet | apply App.ite | refine App.bind ?_ fun _ => ?_)) h
noncomputable def F.value_Read (K : Nat) (a0 : TScanx) : Option (TValue × TScanx) := evFn Tryd.prog sg K 20 [.sc (.ref 0 0)] [.cells 62 [.val (.string a0.1), .val (.int .i64 a0.2.1), .val (.int .i64 a0.2.2.1), .val (.bool a0.2.2.2)]]
noncomputable def F.value_Read.B (c0 : (TScanx) → Option (Int × TScanx)) (c1 : (TScanx) → Option (Int × TScanx)) (c2 : (TValue) → Option (Int)) (c3 : (TScanx) → (Int) → Option (TScanx)) (c4 : (TScanx) → Option (Int × TScanx)) (c5 : (TScanx) → (Int) → Option (ByteArray × TScanx)) (a0 : TScanx) : Option (TValue × TScanx) :=
    ((c0 (a0.1, a0.2.1, a0.2.2.1, a0.2.2.2)).bind fun t0 => (bif (t0.1 == 1) then ((c0 (t0.2.1, t0.2.2.1, t0.2.2.2.1, t0.2.2.2.2)).bind fun t1 => ((c1 (t1.2.1, t1.2.2.1, t1.2.2.2.1, t1.2.2.2.2)).bind fun t2 => (bif (t2.1 != 0) then (some ((0, 0, (⟨#[]⟩ : ByteArray)), t2.2.1, t2.2.2.1, t2.2.2.2.1, t2.2.2.2.2)) else ((c2 (t0.1, t1.1, (⟨#[]⟩ : ByteArray))).bind fun t3 => (bif (t3 != 0) then ((c3 (t2.2.1, t2.2.2.1, t2.2.2.2.1, t2.2.2.2.2) 3).bind fun t4 => (some ((0, 0, (⟨#[]⟩ : ByteArray)), t4.1, t4.2.1, t4.2.2.1, t4.2.2.2))) else (some ((t0.1, t1.1, (⟨#[]⟩ : ByteArray)), t2.2.1, t2.2.2.1, t2.2.2.2.1, t2.2.2.2.2))))))) else (bif (t0.1 == 2) then ((c4 (t0.2.1, t0.2.2.1, t0.2.2.2.1, t0.2.2.2.2)).bind fun t5 => ((c1 (t5.2.1, t5.2.2.1, t5.2.2.2.1, t5.2.2.2.2)).bind fun t6 => (bif (t6.1 != 0) then (some ((0, 0, (⟨#[]⟩ : ByteArray)), t6.2.1, t6.2.2.1, t6.2.2.2.1, t6.2.2.2.2)) else ((c2 (t0.1, t5.1, (⟨#[]⟩ : ByteArray))).bind fun t7 => (bif (t7 != 0) then ((c3 (t6.2.1, t6.2.2.1, t6.2.2.2.1, t6.2.2.2.2) 3).bind fun t8 => (some ((0, 0, (⟨#[]⟩ : ByteArray)), t8.1, t8.2.1, t8.2.2.1, t8.2.2.2))) else (some ((t0.1, t5.1, (⟨#[]⟩ : ByteArray)), t6.2.1, t6.2.2.1, t6.2.2.2.1, t6.2.2.2.2))))))) else (bif (t0.1 == 3) then ((c5 (t0.2.1, t0.2.2.1, t0.2.2.2.1, t0.2.2.2.2) 64).bind fun t9 => ((c1 (t9.2.1, t9.2.2.1, t9.2.2.2.1, t9.2.2.2.2)).bind fun t10 => (bif (t10.1 != 0) then (some ((0, 0, (⟨#[]⟩ : ByteArray)), t10.2.1, t10.2.2.1, t10.2.2.2.1, t10.2.2.2.2)) else ((c2 (t0.1, 0, t9.1)).bind fun t11 => (bif (t11 != 0) then ((c3 (t10.2.1, t10.2.2.1, t10.2.2.2.1, t10.2.2.2.2) 3).bind fun t12 => (some ((0, 0, (⟨#[]⟩ : ByteArray)), t12.1, t12.2.1, t12.2.2.1, t12.2.2.2))) else (some ((t0.1, 0, t9.1), t10.2.1, t10.2.2.1, t10.2.2.2.1, t10.2.2.2.2))))))) else ((c1 (t0.2.1, t0.2.2.1, t0.2.2.2.1, t0.2.2.2.2)).bind fun t13 => (bif (t13.1 != 0) then (some ((0, 0, (⟨#[]⟩ : ByteArray)), t13.2.1, t13.2.2.1, t13.2.2.2.1, t13.2.2.2.2)) else ((c2 (t0.1, 0, (⟨#[]⟩ : ByteArray))).bind fun t14 => (bif (t14 != 0) then ((c3 (t13.2.1, t13.2.2.1, t13.2.2.2.1, t13.2.2.2.2) 3).bind fun t15 => (some ((0, 0, (⟨#[]⟩ : ByteArray)), t15.1, t15.2.1, t15.2.2.1, t15.2.2.2))) else (some ((t0.1, 0, (⟨#[]⟩ : ByteArray)), t13.2.1, t13.2.2.1, t13.2.2.2.1, t13.2.2.2.2))))))))))
theorem F.value_Read.eq K a0 : F.value_Read (K + 1) a0 = F.value_Read.B (F.scan_Scan_Byte K) (F.scan_Scan_Err K) (F.value_Check K) (F.scan_Scan_Fail K) (F.scan_Scan_Int K) (F.scan_Scan_Text K) a0 := by kernel_rfl
noncomputable def V.value_Read (a0 : TScanx) := lim fun v => F.value_Read (v 0) a0
theorem V.value_Read.of a0 {r} (h : F.value_Read.B V.scan_Scan_Byte V.scan_Scan_Err V.value_Check V.scan_Scan_Fail V.scan_Scan_Int V.scan_Scan_Text a0 = some r) : V.value_Read a0 = some r :=
  App.to (App.step 0 (fun v => F.value_Read.eq (v 0) a0) (by unfold F.value_Read.B; repeat' first | apply App.guard | apply App.cond | exact App.lim | exact App.val | exact App.no | apply App.meet | apply App.ite | refine App.bind ?_ fun _ => ?_)) h
noncomputable def F.scan_Scan_End (K : Nat) (a0 : TScanx) : Option (Int × TScanx) := evFn Tryd.prog sg K 40 [.sc (.ref 0 0)] [.cells 62 [.val (.string a0.1), .val (.int .i64 a0.2.1), .val (.int .i64 a0.2.2.1), .val (.bool a0.2.2.2)]]
noncomputable def F.scan_Scan_End.B (c0 : (TScanx) → Option (Int × TScanx)) (a0 : TScanx) : Option (Int × TScanx) :=
    ((c0 (a0.1, a0.2.1, a0.2.2.1, a0.2.2.2)).bind fun t0 => (bif (t0.1 == 0) then (meet (bif (decide (t0.2.2.1 < (t0.2.1.size : Int))) then ((c0 (t0.2.1, t0.2.2.1, 3, t0.2.2.2.2)).bind fun t1 => (some (t1.1, t1.2.1, t1.2.2.1, t1.2.2.2.1, t1.2.2.2.2))) else ((c0 (t0.2.1, t0.2.2.1, t0.2.2.2.1, t0.2.2.2.2)).bind fun t2 => (some (t2.1, t2.2.1, t2.2.2.1, t2.2.2.2.1, t2.2.2.2.2)))) (bif (decide (t0.2.2.1 < (t0.2.1.size : Int))) then ((c0 (t0.2.1, t0.2.2.1, 3, t0.2.2.2.2)).bind fun t3 => (some (t3.1, t3.2.1, t3.2.2.1, t3.2.2.2.1, t3.2.2.2.2))) else ((c0 (t0.2.1, t0.2.2.1, t0.2.2.2.1, t0.2.2.2.2)).bind fun t4 => (some (t4.1, t4.2.1, t4.2.2.1, t4.2.2.2.1, t4.2.2.2.2))))) else ((c0 (t0.2.1, t0.2.2.1, t0.2.2.2.1, t0.2.2.2.2)).bind fun t5 => (some (t5.1, t5.2.1, t5.2.2.1, t5.2.2.2.1, t5.2.2.2.2)))))
theorem F.scan_Scan_End.eq K a0 : F.scan_Scan_End (K + 1) a0 = F.scan_Scan_End.B (F.scan_Scan_Err K) a0 := by kernel_rfl
noncomputable def V.scan_Scan_End (a0 : TScanx) := lim fun v => F.scan_Scan_End (v 0) a0
theorem V.scan_Scan_End.of a0 {r} (h : F.scan_Scan_End.B V.scan_Scan_Err a0 = some r) : V.scan_Scan_End a0 = some r :=
  App.to (App.step 0 (fun v => F.scan_Scan_End.eq (v 0) a0) (by unfold F.scan_Scan_End.B; repeat' first | apply App.guard | apply App.cond | exact App.lim | exact App.val | exact App.no | apply App.meet | apply App.ite | refine App.bind ?_ fun _ => ?_)) h
noncomputable def F.value_Take (K : Nat) (a0 : ByteArray) : Option (TValue × Int) := evFn Tryd.prog sg K 17 [.sc (.val (.string a0))] []
noncomputable def F.value_Take.B (c0 : (ByteArray) → Option (TScanx)) (c1 : (TScanx) → Option (TValue × TScanx)) (c2 : (TScanx) → Option (Int × TScanx)) (a0 : ByteArray) : Option (TValue × Int) :=
    ((c0 a0).bind fun t0 => ((c1 (t0.1, t0.2.1, t0.2.2.1, t0.2.2.2)).bind fun t1 => ((c2 (t1.2.1, t1.2.2.1, t1.2.2.2.1, t1.2.2.2.2)).bind fun t2 => (bif (t2.1 != 0) then (some ((0, 0, (⟨#[]⟩ : ByteArray)), t2.1)) else (some ((t1.1.1, t1.1.2.1, t1.1.2.2), 0))))))
theorem F.value_Take.eq K a0 : F.value_Take (K + 1) a0 = F.value_Take.B (F.scan_New K) (F.value_Read K) (F.scan_Scan_End K) a0 := by kernel_rfl
noncomputable def V.value_Take (a0 : ByteArray) := lim fun v => F.value_Take (v 0) a0
theorem V.value_Take.of a0 {r} (h : F.value_Take.B V.scan_New V.value_Read V.scan_Scan_End a0 = some r) : V.value_Take a0 = some r :=
  App.to (App.step 0 (fun v => F.value_Take.eq (v 0) a0) (by unfold F.value_Take.B; repeat' first | apply App.guard | apply App.cond | exact App.lim | exact App.val | exact App.no | apply App.meet | apply App.ite | refine App.bind ?_ fun _ => ?_)) h
noncomputable def F.stringslite_HasPrefix (K : Nat) (a0 : ByteArray) (a1 : ByteArray) : Option (Bool) := evFn Tryd.prog sg K 80 [.sc (.val (.string a0)), .sc (.val (.string a1))] []
noncomputable def F.stringslite_HasPrefix.B (a0 : ByteArray) (a1 : ByteArray) : Option (Bool) :=
    (bif (decide ((a0.size : Int) ≥ (a1.size : Int))) then (guardK (decide (0 ≤ (a1.size : Int)) && decide ((a1.size : Int) ≤ (a0.size : Int))) (some (strEq (a0.extract 0 (a1.size : Int).toNat) a1))) else (some false))
theorem F.stringslite_HasPrefix.eq K a0 a1 : F.stringslite_HasPrefix (K + 1) a0 a1 = F.stringslite_HasPrefix.B a0 a1 := by kernel_rfl
noncomputable def V.stringslite_HasPrefix (a0 : ByteArray) (a1 : ByteArray) := lim fun v => F.stringslite_HasPrefix (v 0) a0 a1
theorem V.stringslite_HasPrefix.of a0 a1 {r} (h : F.stringslite_HasPrefix.B a0 a1 = some r) : V.stringslite_HasPrefix a0 a1 = some r :=
  App.to (App.step 0 (fun v => F.stringslite_HasPrefix.eq (v 0) a0 a1) (by unfold F.stringslite_HasPrefix.B; repeat' first | apply App.guard | apply App.cond | exact App.lim | exact App.val | exact App.no | apply App.meet | apply App.ite | refine App.bind ?_ fun _ => ?_)) h
noncomputable def F.strings_HasPrefix (K : Nat) (a0 : ByteArray) (a1 : ByteArray) : Option (Bool) := evFn Tryd.prog sg K 70 [.sc (.val (.string a0)), .sc (.val (.string a1))] []
noncomputable def F.strings_HasPrefix.B (c0 : (ByteArray) → (ByteArray) → Option (Bool)) (a0 : ByteArray) (a1 : ByteArray) : Option (Bool) :=
    ((c0 a0 a1).bind fun t0 => (some t0))
theorem F.strings_HasPrefix.eq K a0 a1 : F.strings_HasPrefix (K + 1) a0 a1 = F.strings_HasPrefix.B (F.stringslite_HasPrefix K) a0 a1 := by kernel_rfl
noncomputable def V.strings_HasPrefix (a0 : ByteArray) (a1 : ByteArray) := lim fun v => F.strings_HasPrefix (v 0) a0 a1
theorem V.strings_HasPrefix.of a0 a1 {r} (h : F.strings_HasPrefix.B V.stringslite_HasPrefix a0 a1 = some r) : V.strings_HasPrefix a0 a1 = some r :=
  App.to (App.step 0 (fun v => F.strings_HasPrefix.eq (v 0) a0 a1) (by unfold F.strings_HasPrefix.B; repeat' first | apply App.guard | apply App.cond | exact App.lim | exact App.val | exact App.no | apply App.meet | apply App.ite | refine App.bind ?_ fun _ => ?_)) h
noncomputable def F.sha_digit (K : Nat) (a0 : Int) : Option (Int) := evFn Tryd.prog sg K 81 [.sc (.val (.int .u8 a0))] []
noncomputable def F.sha_digit.B (a0 : Int) : Option (Int) :=
    (bif (decide (a0 ≥ 48)) then (bif (decide (a0 ≤ 57)) then (some (IntKind.wrap .u8 (a0 - 48))) else (bif (decide (a0 ≥ 97)) then (bif (decide (a0 ≤ 102)) then (some (IntKind.wrap .u8 ((IntKind.wrap .u8 (a0 - 97)) + 10))) else (some 16)) else (some 16))) else (bif (decide (a0 ≥ 97)) then (bif (decide (a0 ≤ 102)) then (some (IntKind.wrap .u8 ((IntKind.wrap .u8 (a0 - 97)) + 10))) else (some 16)) else (some 16)))
theorem F.sha_digit.eq K a0 : F.sha_digit (K + 1) a0 = F.sha_digit.B a0 := by kernel_rfl
noncomputable def V.sha_digit (a0 : Int) := lim fun v => F.sha_digit (v 0) a0
theorem V.sha_digit.of a0 {r} (h : F.sha_digit.B a0 = some r) : V.sha_digit a0 = some r :=
  App.to (App.step 0 (fun v => F.sha_digit.eq (v 0) a0) (by unfold F.sha_digit.B; repeat' first | apply App.guard | apply App.cond | exact App.lim | exact App.val | exact App.no | apply App.meet | apply App.ite | refine App.bind ?_ fun _ => ?_)) h
noncomputable def F.sha_Unhex (K : Nat) (a0 : ByteArray) : Option (ByteArray × Bool) := evFn Tryd.prog sg K 71 [.sc (.val (.string a0))] []
noncomputable def F.sha_Unhex.at (K : Nat) (p ns : List Nat) (s : St) : Option (ByteArray × Bool) := atFn Tryd.prog sg K 71 0 p ns s
noncomputable def F.sha_Unhex.in (K : Nat) (H : List Nat → List Nat → St → Option (ByteArray × Bool)) (p ns : List Nat) (s : St) : Option (ByteArray × Bool) := inFn Tryd.prog sg K 71 0 [] H p ns s
theorem F.sha_Unhex.in_eq K p ns s : F.sha_Unhex.at K p ns s = F.sha_Unhex.in K (F.sha_Unhex.at K) p ns s := atFn_eq (P := Tryd.prog) (sg := sg) (K := K) (f := 71) (m := 0) [] p ns s
theorem F.sha_Unhex.in_main K a0 : F.sha_Unhex (K + 1) a0 = F.sha_Unhex.in K (F.sha_Unhex.at K) [] [] ⟨slots [.sc (.val (.string a0))] 0, []⟩ := evFn_eq (P := Tryd.prog) (sg := sg) (K := K) (f := 71) (args := [.sc (.val (.string a0))]) (σ := []) [] (by kernel_rfl)
def F.sha_Unhex.l111010.st (a0 : ByteArray) (x0 : Int) (x1 : List Int) : St := ⟨[(0, vS a0), (4, .one (.sc (.own 0 none))), (5, vI x0)], [.elems (.int .u8) x1]⟩
noncomputable def F.sha_Unhex.l111010 (K n0 : Nat) (a0 : ByteArray) (x0 : Int) (x1 : List Int) := F.sha_Unhex.at K [1, 1, 1, 0, 1, 0] [n0] (F.sha_Unhex.l111010.st a0 x0 x1)
noncomputable def F.sha_Unhex.l111010.B (c0 : (Int) → Option (Int)) (c1 : (ByteArray) → (Int) → (List Int) → Option (ByteArray × Bool)) (a0 : ByteArray) (x0 : Int) (x1 : List Int) : Option (ByteArray × Bool) :=
    (bif (decide (x0 < (a0.size : Int))) then (guardK (decide (0 ≤ x0) && decide (x0 < (a0.size : Int))) (guardK (decide (0 ≤ (w64 (x0 + 1))) && decide ((w64 (x0 + 1)) < (a0.size : Int))) ((c0 (byteAt a0 x0)).bind fun t0 => ((c0 (byteAt a0 (w64 (x0 + 1)))).bind fun t1 => (bif (decide (t0 > 15)) then (some ((⟨#[]⟩ : ByteArray), false)) else (bif (decide (t1 > 15)) then (some ((⟨#[]⟩ : ByteArray), false)) else (guardK (decide (x1.length + ([(IntKind.wrap .u8 ((BitVec.ofInt 8 (IntKind.wrap .u8 (t0 * 2 ^ 4)) ||| BitVec.ofInt 8 t1).toNat : Int))]).length ≤ nmax)) (c1 a0 (w64 (x0 + 2)) (x1 ++ [(IntKind.wrap .u8 ((BitVec.ofInt 8 (IntKind.wrap .u8 (t0 * 2 ^ 4)) ||| BitVec.ofInt 8 t1).toNat : Int))]))))))))) else (some ((bytesOf x1), true)))
theorem F.sha_Unhex.l111010.eq K n0 a0 x0 x1 : F.sha_Unhex.l111010 K (n0 + 1) a0 x0 x1 = F.sha_Unhex.l111010.B (F.sha_digit K) (F.sha_Unhex.l111010 K n0) a0 x0 x1 := (F.sha_Unhex.in_eq K [1, 1, 1, 0, 1, 0] [n0 + 1] (F.sha_Unhex.l111010.st a0 x0 x1)).trans ((show ∀ H, F.sha_Unhex.in K H [1, 1, 1, 0, 1, 0] [n0 + 1] (F.sha_Unhex.l111010.st a0 x0 x1) = F.sha_Unhex.l111010.B (F.sha_digit K) (fun a0 x0 x1 => H [1, 1, 1, 0, 1, 0] [n0] (F.sha_Unhex.l111010.st a0 x0 x1)) a0 x0 x1 from by intro H; kernel_rfl) (F.sha_Unhex.at K))
noncomputable def F.sha_Unhex.B (c0 : (ByteArray) → (Int) → (List Int) → Option (ByteArray × Bool)) (a0 : ByteArray) : Option (ByteArray × Bool) :=
    (bif ((Int.tmod (a0.size : Int) 2) != 0) then (some ((⟨#[]⟩ : ByteArray), false)) else (c0 a0 0 ([])))
theorem F.sha_Unhex.eq K a0 : F.sha_Unhex (K + 1) a0 = F.sha_Unhex.B (F.sha_Unhex.l111010 K K) a0 := (F.sha_Unhex.in_main K a0).trans ((show ∀ H, F.sha_Unhex.in K H [] [] ⟨slots [.sc (.val (.string a0))] 0, []⟩ = F.sha_Unhex.B (fun a0 x0 x1 => H [1, 1, 1, 0, 1, 0] [K] (F.sha_Unhex.l111010.st a0 x0 x1)) a0 from by intro H; kernel_rfl) (F.sha_Unhex.at K))
noncomputable def V.sha_Unhex.l111010 (a0 : ByteArray) (x0 : Int) (x1 : List Int) := lim fun v => F.sha_Unhex.l111010 (v 0) (v 1) a0 x0 x1
noncomputable def V.sha_Unhex (a0 : ByteArray) := lim fun v => F.sha_Unhex (v 0) a0
theorem V.sha_Unhex.l111010.of a0 x0 x1 {r} (h : F.sha_Unhex.l111010.B V.sha_digit V.sha_Unhex.l111010 a0 x0 x1 = some r) : V.sha_Unhex.l111010 a0 x0 x1 = some r :=
  App.to (App.step 1 (fun v => F.sha_Unhex.l111010.eq (v 0) (v 1) a0 x0 x1) (by unfold F.sha_Unhex.l111010.B; repeat' first | apply App.guard | apply App.cond | exact App.lim | exact App.val | exact App.no | apply App.meet | apply App.ite | refine App.bind ?_ fun _ => ?_)) h
theorem V.sha_Unhex.of a0 {r} (h : F.sha_Unhex.B V.sha_Unhex.l111010 a0 = some r) : V.sha_Unhex a0 = some r :=
  App.to (App.step 0 (fun v => F.sha_Unhex.eq (v 0) a0) (by unfold F.sha_Unhex.B; repeat' first | apply App.guard | apply App.cond | exact App.lim | exact (App.enter 1 App.lim) | exact App.val | exact App.no | apply App.meet | apply App.ite | refine App.bind ?_ fun _ => ?_)) h
noncomputable def F.strconv_Atoi (K : Nat) (a0 : ByteArray) : Option (Int × Bool) := evFn Tryd.prog sg K 72 [.sc (.val (.string a0))] []
noncomputable def F.strconv_Atoi.B (a0 : ByteArray) : Option (Int × Bool) :=
    (atoiB a0)
theorem F.strconv_Atoi.eq K a0 : F.strconv_Atoi (K + 1) a0 = F.strconv_Atoi.B a0 := by kernel_rfl
noncomputable def V.strconv_Atoi (a0 : ByteArray) := lim fun v => F.strconv_Atoi (v 0) a0
theorem V.strconv_Atoi.of a0 {r} (h : F.strconv_Atoi.B a0 = some r) : V.strconv_Atoi a0 = some r :=
  App.to (App.step 0 (fun v => F.strconv_Atoi.eq (v 0) a0) App.const) h
noncomputable def F.value_read (K : Nat) (a0 : ByteArray) : Option (TValue × Bool) := evFn Tryd.prog sg K 49 [.sc (.val (.string a0))] []
noncomputable def F.value_read.B (c0 : (ByteArray) → (ByteArray) → Option (Bool)) (c1 : (ByteArray) → Option (ByteArray × Bool)) (c2 : (ByteArray) → Option (Int × Bool)) (a0 : ByteArray) : Option (TValue × Bool) :=
    (bif (strEq a0 (⟨#[116, 114, 117, 101]⟩ : ByteArray)) then (some ((1, 1, (⟨#[]⟩ : ByteArray)), true)) else (bif (strEq a0 (⟨#[102, 97, 108, 115, 101]⟩ : ByteArray)) then (some ((1, 0, (⟨#[]⟩ : ByteArray)), true)) else ((c0 a0 (⟨#[39]⟩ : ByteArray)).bind fun t0 => (bif t0 then (guardK (decide (1 ≤ (a0.size : Int)) && decide ((a0.size : Int) ≤ (a0.size : Int))) (some ((3, 0, (a0.extract 1 (a0.size : Int).toNat)), true))) else ((c0 a0 (⟨#[35]⟩ : ByteArray)).bind fun t1 => (bif t1 then (guardK (decide (1 ≤ (a0.size : Int)) && decide ((a0.size : Int) ≤ (a0.size : Int))) ((c1 (a0.extract 1 (a0.size : Int).toNat)).bind fun t2 => (some ((3, 0, t2.1), t2.2)))) else ((c2 a0).bind fun t3 => (some ((2, t3.1, (⟨#[]⟩ : ByteArray)), t3.2)))))))))
theorem F.value_read.eq K a0 : F.value_read (K + 1) a0 = F.value_read.B (F.strings_HasPrefix K) (F.sha_Unhex K) (F.strconv_Atoi K) a0 := by kernel_rfl
noncomputable def V.value_read (a0 : ByteArray) := lim fun v => F.value_read (v 0) a0
theorem V.value_read.of a0 {r} (h : F.value_read.B V.strings_HasPrefix V.sha_Unhex V.strconv_Atoi a0 = some r) : V.value_read a0 = some r :=
  App.to (App.step 0 (fun v => F.value_read.eq (v 0) a0) (by unfold F.value_read.B; repeat' first | apply App.guard | apply App.cond | exact App.lim | exact App.val | exact App.no | apply App.meet | apply App.ite | refine App.bind ?_ fun _ => ?_)) h
noncomputable def F.value_Parse (K : Nat) (a0 : ByteArray) : Option (TValue × Int) := evFn Tryd.prog sg K 24 [.sc (.val (.string a0))] []
noncomputable def F.value_Parse.B (c0 : (ByteArray) → Option (TValue × Bool)) (c1 : (TValue) → Option (ByteArray)) (a0 : ByteArray) : Option (TValue × Int) :=
    ((c0 a0).bind fun t0 => (bif (!t0.2) then (some ((0, 0, (⟨#[]⟩ : ByteArray)), 3)) else ((c1 (t0.1.1, t0.1.2.1, t0.1.2.2)).bind fun t1 => (bif (!strEq t1 a0) then (some ((0, 0, (⟨#[]⟩ : ByteArray)), 3)) else (some ((t0.1.1, t0.1.2.1, t0.1.2.2), 0))))))
theorem F.value_Parse.eq K a0 : F.value_Parse (K + 1) a0 = F.value_Parse.B (F.value_read K) (F.value_Show K) a0 := by kernel_rfl
noncomputable def V.value_Parse (a0 : ByteArray) := lim fun v => F.value_Parse (v 0) a0
theorem V.value_Parse.of a0 {r} (h : F.value_Parse.B V.value_read V.value_Show a0 = some r) : V.value_Parse a0 = some r :=
  App.to (App.step 0 (fun v => F.value_Parse.eq (v 0) a0) (by unfold F.value_Parse.B; repeat' first | apply App.guard | apply App.cond | exact App.lim | exact App.val | exact App.no | apply App.meet | apply App.ite | refine App.bind ?_ fun _ => ?_)) h
noncomputable def F.pleachlaw06_ValueBack (K : Nat) (a0 : TValue) (a1 : ByteArray) : Option (Bool) := evFn Tryd.prog sg K 7 [.agg [.val (.int .i64 a0.1), .val (.int .i64 a0.2.1), .val (.string a0.2.2)], .sc (.val (.string a1))] []
noncomputable def F.pleachlaw06_ValueBack.B (c0 : Option (Bool)) (c1 : (ByteArray) → Option (TValue × Int)) (c2 : (TValue) → Option (ByteArray × Int)) (c3 : (TValue) → Option (Int)) (c4 : (TValue) → Option (ByteArray)) (c5 : (ByteArray) → Option (TValue × Int)) (a0 : TValue) (a1 : ByteArray) : Option (Bool) :=
    (bif (decide ((a0.2.2.size : Int) > 1000)) then ((c0).bind fun t0 => (some t0)) else (bif (decide ((a1.size : Int) > 1000)) then ((c0).bind fun t1 => (some t1)) else ((c1 a1).bind fun t2 => (bif (t2.2 == 0) then ((c2 (t2.1.1, t2.1.2.1, t2.1.2.2)).bind fun t3 => (bif (!strEq t3.1 a1) then (some false) else (bif (t3.2 != 0) then (some false) else ((c3 (a0.1, a0.2.1, a0.2.2)).bind fun t4 => (bif (t4 != 0) then ((c0).bind fun t5 => (some t5)) else ((c2 (a0.1, a0.2.1, a0.2.2)).bind fun t6 => ((c1 t6.1).bind fun t7 => ((c4 (a0.1, a0.2.1, a0.2.2)).bind fun t8 => ((c5 t8).bind fun t9 => (bif ((t7.1.1 == a0.1) && ((t7.1.2.1 == a0.2.1) && ((strEq t7.1.2.2 a0.2.2) && true))) then (bif (t7.2 == 0) then (bif ((t9.1.1 == a0.1) && ((t9.1.2.1 == a0.2.1) && ((strEq t9.1.2.2 a0.2.2) && true))) then (bif (t9.2 == 0) then ((c0).bind fun t10 => (some t10)) else (some false)) else (some false)) else (some false)) else (some false))))))))))) else ((c3 (a0.1, a0.2.1, a0.2.2)).bind fun t11 => (bif (t11 != 0) then ((c0).bind fun t12 => (some t12)) else ((c2 (a0.1, a0.2.1, a0.2.2)).bind fun t13 => ((c1 t13.1).bind fun t14 => ((c4 (a0.1, a0.2.1, a0.2.2)).bind fun t15 => ((c5 t15).bind fun t16 => (bif ((t14.1.1 == a0.1) && ((t14.1.2.1 == a0.2.1) && ((strEq t14.1.2.2 a0.2.2) && true))) then (bif (t14.2 == 0) then (bif ((t16.1.1 == a0.1) && ((t16.1.2.1 == a0.2.1) && ((strEq t16.1.2.2 a0.2.2) && true))) then (bif (t16.2 == 0) then ((c0).bind fun t17 => (some t17)) else (some false)) else (some false)) else (some false)) else (some false))))))))))))
theorem F.pleachlaw06_ValueBack.eq K a0 a1 : F.pleachlaw06_ValueBack (K + 1) a0 a1 = F.pleachlaw06_ValueBack.B (F.pleachlaw06_awake K) (F.value_Take K) (F.value_Put K) (F.value_Check K) (F.value_Show K) (F.value_Parse K) a0 a1 := by kernel_rfl
noncomputable def V.pleachlaw06_ValueBack (a0 : TValue) (a1 : ByteArray) := lim fun v => F.pleachlaw06_ValueBack (v 0) a0 a1
theorem V.pleachlaw06_ValueBack.of a0 a1 {r} (h : F.pleachlaw06_ValueBack.B V.pleachlaw06_awake V.value_Take V.value_Put V.value_Check V.value_Show V.value_Parse a0 a1 = some r) : V.pleachlaw06_ValueBack a0 a1 = some r :=
  App.to (App.step 0 (fun v => F.pleachlaw06_ValueBack.eq (v 0) a0 a1) (by unfold F.pleachlaw06_ValueBack.B; repeat' first | apply App.guard | apply App.cond | exact App.lim | exact App.val | exact App.no | apply App.meet | apply App.ite | refine App.bind ?_ fun _ => ?_)) h
end Go.Proofs.YthnhkaaodghpgaaDoor.AE
end
section
set_option linter.unusedVariables false
set_option linter.unusedSimpArgs false
namespace Go.Proofs.YthnhkaaodghpgaaDoor.AE
open Go

theorem w64_id {x : Int} (h0 : -9223372036854775808 ≤ x) (h1 : x ≤ 9223372036854775807) : w64 x = x := by
  show IntKind.i64.wrap x = x
  simp [IntKind.wrap, IntKind.bits, IntKind.signed]
  omega
theorem u64_id {x : Int} (h0 : 0 ≤ x) (h1 : x ≤ 18446744073709551615) : IntKind.wrap .u64 x = x := by
  have : IntKind.u64.wrap x = x % 18446744073709551616 := by simp [IntKind.wrap, IntKind.bits, IntKind.signed]
  rw [this]; omega
theorem u64_mod (x : Int) : IntKind.wrap .u64 x = x % 18446744073709551616 := by simp [IntKind.wrap, IntKind.bits, IntKind.signed]
theorem u8_mod (x : Int) : IntKind.wrap .u8 x = x % 256 := by simp [IntKind.wrap, IntKind.bits, IntKind.signed]
theorem w64_up {i n : Nat} (h : i < n) (hn : n ≤ 140737488351232) : w64 ((i : Int) + 1) = ((i + 1 : Nat) : Int) := by rw [w64_id (by omega) (by omega)]; omega
theorem guard_of {α : Type} {g : Bool} {a : Option α} (h : g = true) : guardK g a = a := by rw [h]; rfl
theorem guard_dec {α : Type} {p : Prop} [Decidable p] {a : Option α} (h : p) : guardK (decide p) a = a := guard_of (decide_eq_true h)
/-- Inside a row. -/
theorem guard_in {α : Type} {i n : Nat} {a : Option α} (h : i < n) : guardK (decide (0 ≤ (i : Int)) && decide ((i : Int) < (n : Int))) a = a := guard_of (by simp [h])
theorem if_in {α : Type} {i n : Nat} {a b : α} (h : i < n) : (bif decide ((i : Int) < (n : Int)) then a else b) = a := by simp [h]
theorem if_out {α : Type} {i n : Nat} {a b : α} (h : n ≤ i) : (bif decide ((i : Int) < (n : Int)) then a else b) = b := by simp [Nat.not_lt.2 h]
theorem if_yes {α : Type} {p : Prop} [Decidable p] {a b : α} (h : p) : (bif decide p then a else b) = a := by simp [h]
theorem if_no {α : Type} {p : Prop} [Decidable p] {a b : α} (h : ¬ p) : (bif decide p then a else b) = b := by simp [h]
theorem nat_cast (i : Nat) : ((i : Nat) : Int).toNat = i := rfl
theorem meet_self {α : Type} (a : Option α) : meet a a = a := by unfold meet; simp
theorem data_len (s : ByteArray) : s.data.toList.length = s.size := by rw [Array.length_toList]; rfl
theorem toList_size (s : ByteArray) : s.toList.length = s.size := by rw [ByteArray.toList_eq]; exact data_len s
theorem toList_nil {s : ByteArray} : s.toList = [] ↔ s.size = 0 := by
  rw [← toList_size, List.length_eq_zero_iff]
theorem bytes_ext {s t : ByteArray} (h : s.toList = t.toList) : s = t := by
  rw [ByteArray.toList_eq, ByteArray.toList_eq] at h
  have : s.data = t.data := by rwa [← Array.toList_inj]
  cases s; cases t; simp_all
theorem strEq_iff {s t : ByteArray} : strEq s t = true ↔ s = t := by
  unfold strEq
  rw [beq_iff_eq]
  exact ⟨bytes_ext, fun h => by rw [h]⟩
theorem strEq_self (s : ByteArray) : strEq s s = true := strEq_iff.2 rfl
theorem strEq_no {s t : ByteArray} (h : s ≠ t) : strEq s t = false := by
  cases hb : strEq s t with
  | false => rfl
  | true => exact absurd (strEq_iff.1 hb) h
theorem strEq_dec (s t : ByteArray) : strEq s t = decide (s = t) := by
  by_cases h : s = t
  · rw [h, strEq_self]; simp
  · rw [strEq_no h]; simp [h]
/-! ### The order of texts -/

theorem size_zero {s : ByteArray} (h : s.size = 0) : s = (⟨#[]⟩ : ByteArray) := by
  apply bytes_ext
  rw [toList_nil.2 h]
  exact (toList_nil.2 rfl).symm
theorem strEq_nil (s : ByteArray) : strEq s (⟨#[]⟩ : ByteArray) = (s.size == 0) := by
  rw [Bool.eq_iff_iff, strEq_iff]
  simp only [beq_iff_eq]
  exact ⟨fun h => by rw [h]; rfl, size_zero⟩
theorem strOfNums_size (xs : List Int) : (bytesOf xs).size = xs.length := by unfold bytesOf; simp [ByteArray.size]
theorem strOfNums_append (xs ys : List Int) : bytesOf (xs ++ ys) = bytesOf xs ++ bytesOf ys := by
  apply ByteArray.ext
  simp [bytesOf]
theorem bt_data (s : ByteArray) (i : Nat) (h : i < s.size) : byteAt s (i : Int) = ((s.data.toList[i]'(by rw [Array.length_toList]; exact h)).toNat : Int) := by
  show (((s.data.toList.getD (i : Int).toNat 0).toNat : Nat) : Int) = _
  rw [nat_cast, List.getD_eq_getElem?_getD, List.getElem?_eq_getElem (by rw [data_len]; exact h)]
  rfl
theorem extract_size (s : ByteArray) (a b : Nat) : (s.extract a b).size ≤ s.size := by
  rw [ByteArray.size_extract]; omega

end Go.Proofs.YthnhkaaodghpgaaDoor.AE
end
section
set_option linter.unusedVariables false
set_option linter.unusedSimpArgs false
namespace Go.Proofs.YthnhkaaodghpgaaDoor.AE
open Go

def valueB (v : TValue) : Bool := (v.1 == 1 && (v.2.1 == 0 || v.2.1 == 1) && v.2.2.size == 0) || (v.1 == 2 && v.2.2.size == 0) || (v.1 == 3 && v.2.1 == 0 && decide (v.2.2.size ≤ 64))
theorem value_Check_ok (v : TValue) : V.value_Check v = some (if valueB v then 0 else 2) := by
  refine V.value_Check.of _ ?_
  obtain ⟨a, b, s⟩ := v
  unfold F.value_Check.B valueB
  simp only [strEq_nil]
  by_cases a1 : a = 1
  · subst a1
    by_cases b0 : b = 0 <;> by_cases b1 : b = 1 <;> by_cases s0 : s.size = 0 <;> simp [Bool.cond_eq_ite, b0, b1, s0]
  · by_cases a2 : a = 2
    · subst a2
      by_cases s0 : s.size = 0 <;> simp [Bool.cond_eq_ite, s0]
    · by_cases a3 : a = 3
      · subst a3
        by_cases b0 : b = 0 <;> by_cases s0 : s.size ≤ 64 <;> simp [Bool.cond_eq_ite, b0, s0] <;> omega
      · simp [Bool.cond_eq_ite, a1, a2, a3]
/-! ### Rows that rise -/

end Go.Proofs.YthnhkaaodghpgaaDoor.AE
end
section
set_option linter.unusedVariables false
set_option linter.unusedSimpArgs false
namespace Go.Proofs.YthnhkaaodghpgaaDoor.AE
open Go

/-- A number's bytes, seven bits a byte, 128 more in all but the last. -/
def vput : Nat → Nat → List Int
  | 0, _ => []
  | f + 1, n => if n < 128 then [(n : Int)] else ((n % 128 + 128 : Nat) : Int) :: vput f (n / 128)
theorem vput_len : ∀ f n : Nat, (vput f n).length ≤ f
  | 0, _ => by simp [vput]
  | f + 1, n => by
    unfold vput
    split
    · simp
    · have := vput_len f (n / 128)
      simp
      omega
theorem vput_pos (f n : Nat) : 0 < (vput (f + 1) n).length := by
  unfold vput
  split <;> simp
def numB (n : Nat) : ByteArray := bytesOf (vput 10 n)
theorem numB_size (n : Nat) : (numB n).size ≤ 10 := by unfold numB; rw [strOfNums_size]; exact vput_len 10 n
theorem or128 (c : Int) (h0 : 0 ≤ c) (h1 : c < 256) : (((BitVec.ofInt 8 c ||| BitVec.ofInt 8 128).toNat : Nat) : Int) = c % 128 + 128 := by
  obtain ⟨n, rfl⟩ := Int.eq_ofNat_of_zero_le h0
  have key : ∀ m : Fin 256, (BitVec.ofInt 8 (m.1 : Int) ||| BitVec.ofInt 8 128).toNat = m.1 % 128 + 128 := by decide +kernel
  have := key ⟨n, by omega⟩
  simp only at this
  rw [this]
  omega
theorem repl_len {α : Type} (a : α) : ∀ n, (repl n a).length = n
  | 0 => rfl
  | n + 1 => by simp [repl, repl_len a n]
theorem take_set_succ {α : Type} (l : List α) (i : Nat) (x : α) (h : i < l.length) : (l.set i x).take (i + 1) = l.take i ++ [x] := by
  rw [List.take_add_one, List.take_set, List.set_eq_of_length_le (by rw [List.length_take]; omega)]
  simp [h]
theorem varint_Put_l (a : Int) : ∀ (f n i : Nat) (arr : List Int), n < 128 ^ (f + 1) → i + f + 1 ≤ 10 → arr.length = 10 → V.varint_Put.l11100 a (n : Int) (i : Int) arr = some (bytesOf (arr.take i ++ vput (f + 1) n))
  | f, n, i, arr, hn, hi, ha => by
    refine V.varint_Put.l11100.of _ _ _ _ ?_
    unfold F.varint_Put.l11100.B
    have e7 : Int.fdiv (n : Int) (2 ^ 7) = ((n / 128 : Nat) : Int) := by rw [Int.fdiv_eq_ediv_of_nonneg _ (by decide)]; rfl
    rw [e7, w64_id (x := (i : Int) + 1) (by omega) (by omega)]
    simp only [u8_mod]
    by_cases h : n < 128
    · rw [if_no (by omega), guard_of (by simp [ha]; omega), guard_of (by simp [ha]; omega)]
      have e1 : (n : Int) % 256 = n := by omega
      have e2 : ((i : Int) + 1).toNat = i + 1 := rfl
      rw [e1, e2, nat_cast, List.drop_zero, take_set_succ _ _ _ (by omega)]
      have e3 : vput (f + 1) n = [(n : Int)] := by unfold vput; rw [if_pos h]
      rw [e3]
    · cases f with
      | zero => simp at hn; omega
      | succ f =>
        rw [if_yes (by omega), guard_of (by simp [ha]; omega), or128 _ (by omega) (by omega), nat_cast]
        have ih := varint_Put_l a f (n / 128) (i + 1) (arr.set i (((n : Int) % 256 % 128 + 128) % 256)) (by rw [Nat.pow_succ] at hn; exact Nat.div_lt_of_lt_mul (by omega)) (by omega) (by simp [ha])
        rw [show ((i : Int) + 1) = ((i + 1 : Nat) : Int) by omega, ih, take_set_succ _ _ _ (by omega)]
        have e3 : vput (f + 1 + 1) n = ((n % 128 + 128 : Nat) : Int) :: vput (f + 1) (n / 128) := by rw [vput, if_neg h]
        rw [e3, List.append_assoc]
        have e4 : ((n : Int) % 256 % 128 + 128) % 256 = ((n % 128 + 128 : Nat) : Int) := by omega
        rw [e4]
        rfl
theorem varint_Put_ok {n : Nat} (h1 : n < 18446744073709551616) : V.varint_Put (n : Int) = some (numB n) := by
  refine V.varint_Put.of _ ?_
  unfold F.varint_Put.B
  have := varint_Put_l (n : Int) 9 n 0 (repl 10 0) (by omega) (by omega) (repl_len _ _)
  rw [show (0 : Int) = ((0 : Nat) : Int) from rfl] at this ⊢
  rw [this]
  rfl
theorem Put_eq {n : Int} (h0 : 0 ≤ n) (h1 : n < 18446744073709551616) : V.varint_Put n = some (numB n.toNat) := by
  obtain ⟨m, rfl⟩ := Int.eq_ofNat_of_zero_le h0
  exact varint_Put_ok (by omega)

theorem one_size (c : Int) : (bytesOf [c]).size = 1 := strOfNums_size [c]
theorem xor_zero (x : Int) (h0 : 0 ≤ x) (h1 : x < 18446744073709551616) : (((BitVec.ofInt 64 x ^^^ BitVec.ofInt 64 0).toNat : Nat) : Int) = x := by
  obtain ⟨n, rfl⟩ := Int.eq_ofNat_of_zero_le h0
  have e2 : (BitVec.ofInt 64 (n : Int) ^^^ BitVec.ofInt 64 0).toNat = n := by
    have : BitVec.ofInt 64 0 = 0#64 := rfl
    rw [this, BitVec.xor_zero, BitVec.toNat_ofInt]
    omega
  rw [e2]
theorem xor_ones (x : Int) (h0 : 0 ≤ x) (h1 : x < 18446744073709551616) : (((BitVec.ofInt 64 x ^^^ BitVec.ofInt 64 18446744073709551615).toNat : Nat) : Int) = 18446744073709551615 - x := by
  obtain ⟨n, rfl⟩ := Int.eq_ofNat_of_zero_le h0
  have : BitVec.ofInt 64 18446744073709551615 = BitVec.allOnes 64 := by decide
  rw [this, BitVec.xor_allOnes, BitVec.toNat_not, BitVec.toNat_ofInt]
  omega
/-- A number's place among 0, -1, 1, -2, 2. -/
def zig (a : Int) : Int := if 0 ≤ a then 2 * a else -2 * a - 1
theorem zig_bound {a : Int} (h0 : -9223372036854775808 ≤ a) (h1 : a ≤ 9223372036854775807) : 0 ≤ zig a ∧ zig a < 18446744073709551616 := by unfold zig; split <;> omega
theorem zig_ok {a : Int} (h0 : -9223372036854775808 ≤ a) (h1 : a ≤ 9223372036854775807) : V.varint_Zig a = some (zig a) := by
  refine V.varint_Zig.of _ ?_
  unfold F.varint_Zig.B zig
  have e1 : (2 : Int) ^ 1 = 2 := rfl
  have e2 : Int.fdiv a (2 ^ 63) = a / 9223372036854775808 := by rw [Int.fdiv_eq_ediv_of_nonneg _ (by decide)]; rfl
  congr 1
  rw [e1, e2]
  by_cases h : 0 ≤ a
  · rw [if_pos h, u64_id (x := a) (by omega) (by omega), u64_id (x := a * 2) (by omega) (by omega), show a / 9223372036854775808 = 0 by omega, u64_id (x := 0) (by omega) (by omega), xor_zero _ (by omega) (by omega), u64_id (by omega) (by omega)]
    omega
  · rw [if_neg h, show a / 9223372036854775808 = -1 by omega]
    have e1 : IntKind.wrap .u64 a = a + 18446744073709551616 := by rw [u64_mod]; omega
    have e2 : IntKind.wrap .u64 (-1) = 18446744073709551615 := by rw [u64_mod]; rfl
    have e3 : IntKind.wrap .u64 ((a + 18446744073709551616) * 2) = 2 * a + 18446744073709551616 := by rw [u64_mod]; omega
    rw [e1, e2, e3, xor_ones _ (by omega) (by omega), u64_id (by omega) (by omega)]
    omega
/-- A text's bytes: how many it has, and these. -/
def textB (s : ByteArray) : ByteArray := numB s.size ++ s
theorem textB_size (s : ByteArray) : (textB s).size ≤ 10 + s.size := by
  unfold textB
  rw [ByteArray.size_append]
  have := numB_size s.size
  omega
theorem PutText_ok (s : ByteArray) (hs : s.size ≤ 140737488351232) : V.scan_PutText s = some (textB s) := by
  refine V.scan_PutText.of _ ?_
  unfold F.scan_PutText.B
  have := numB_size s.size
  rw [u64_id (by omega) (by omega), varint_Put_ok (by omega), Option.bind_some, guard_dec (by simp [i64max]; omega)]
  rfl
/-- A value's bytes. -/
def valB (v : TValue) : ByteArray :=
  if valueB v = true then
    (if v.1 = 1 then bytesOf [1, v.2.1] else if v.1 = 2 then bytesOf [2] ++ numB (zig v.2.1).toNat else bytesOf [3] ++ textB v.2.2)
  else ⟨#[]⟩
theorem valB_size (v : TValue) : (valB v).size ≤ 80 := by
  unfold valB
  split
  · rename_i hv
    split
    · simp [strOfNums_size]
    · split
      · rw [ByteArray.size_append, strOfNums_size]
        have := numB_size (zig v.2.1).toNat
        simp; omega
      · rename_i a1 a2
        rw [ByteArray.size_append, strOfNums_size]
        have := textB_size v.2.2
        have h64 : v.2.2.size ≤ 64 := by
          unfold valueB at hv
          simp [a1, a2] at hv
          exact hv.2
        simp; omega
  · simp [ByteArray.size]
theorem value_Put_ok (v : TValue) (hb : -9223372036854775808 ≤ v.2.1 ∧ v.2.1 ≤ 9223372036854775807) : V.value_Put v = some (valB v, if valueB v then 0 else 2) := by
  refine V.value_Put.of _ ?_
  obtain ⟨a, b, s⟩ := v
  unfold F.value_Put.B
  simp only at hb ⊢
  rw [value_Check_ok, Option.bind_some]
  unfold valB
  cases hv : valueB (a, b, s) with
  | false => simp
  | true =>
    simp only [if_true]
    unfold valueB at hv
    by_cases a1 : a = 1
    · subst a1
      simp at hv
      have hb2 : b % 256 = b := by omega
      simp only [u8_mod, hb2]
      rw [guard_dec (by rw [one_size, one_size]; simp [i64max]), ← strOfNums_append]
      rfl
    · by_cases a2 : a = 2
      · subst a2
        have hz := zig_bound hb.1 hb.2
        have e : V.scan_PutInt b = some (numB (zig b).toNat) := by
          refine V.scan_PutInt.of _ ?_
          unfold F.scan_PutInt.B
          have : V.varint_Int b = some (numB (zig b).toNat) := by
            refine V.varint_Int.of _ ?_
            unfold F.varint_Int.B
            rw [zig_ok hb.1 hb.2, Option.bind_some, Put_eq hz.1 hz.2, Option.bind_some]
          rw [this, Option.bind_some]
        have := numB_size (zig b).toNat
        rw [e, Option.bind_some, guard_dec (p := _ ≤ _) (a := some (bytesOf [_] ++ numB (zig b).toNat, (0 : Int))) (by rw [one_size]; simp [i64max]; omega)]
        simp [u8_mod]
      · have a3 : a = 3 := by simp [a1, a2] at hv; exact hv.1.1
        have h64 : s.size ≤ 64 := by simp [a1, a2] at hv; exact hv.2
        subst a3
        have := textB_size s
        rw [PutText_ok s (by omega), Option.bind_some, guard_dec (p := _ ≤ _) (a := some (bytesOf [_] ++ textB s, (0 : Int))) (by rw [one_size]; simp [i64max]; omega)]
        simp [u8_mod]
end Go.Proofs.YthnhkaaodghpgaaDoor.AE
end
section
set_option linter.unusedVariables false
set_option linter.unusedSimpArgs false
namespace Go.Proofs.YthnhkaaodghpgaaDoor.AE
open Go

end Go.Proofs.YthnhkaaodghpgaaDoor.AE
end
section
set_option linter.unusedVariables false
set_option linter.unusedSimpArgs false
namespace Go.Proofs.YthnhkaaodghpgaaDoor.AE
open Go

theorem nil_app (s : ByteArray) : (⟨#[]⟩ : ByteArray) ++ s = s := by apply ByteArray.ext; simp
/-! ### Nodes and edges -/

end Go.Proofs.YthnhkaaodghpgaaDoor.AE
end
section
set_option linter.unusedVariables false
set_option linter.unusedSimpArgs false
set_option maxRecDepth 4000
namespace Go.Proofs.YthnhkaaodghpgaaDoor.AE
open Go

theorem bt_range (s : ByteArray) (i : Int) : 0 ≤ byteAt s i ∧ byteAt s i < 256 := by
  unfold byteAt
  have := UInt8.toNat_lt (s.data.toList.getD i.toNat 0)
  omega
/-! lists of bytes that are one number's -/
def dg : List Int → Nat
  | [] => 0
  | c :: r => (c % 128).toNat + 128 * dg r
/-- All but the last bear a mark. -/
def contB : List Int → Bool
  | [] => false
  | [c] => decide (c < 128)
  | c :: d :: r => decide (128 ≤ c) && contB (d :: r)
def lastOk : List Int → Bool
  | [] => false
  | [_] => true
  | _ :: d :: r => decide (0 < r.getLastD d)
def isBytes (l : List Int) : Prop := ∀ x ∈ l, 0 ≤ x ∧ x < 256
theorem vput_bytes : ∀ f n, isBytes (vput f n)
  | 0, n => by intro x hx; simp [vput] at hx
  | f + 1, n => by
    unfold vput
    split
    · intro x hx; simp at hx; omega
    · intro x hx
      simp at hx
      rcases hx with rfl | hx
      · omega
      · exact vput_bytes f (n / 128) x hx
theorem contB_vput : ∀ f n, n < 128 ^ (f + 1) → contB (vput (f + 1) n) = true
  | 0, n, h => by
    have : n < 128 := by simpa using h
    simp [vput, this, contB]
    omega
  | f + 1, n, h => by
    unfold vput
    split
    · simp [contB]; omega
    · have ih := contB_vput f (n / 128) (by rw [Nat.pow_succ] at h; exact Nat.div_lt_of_lt_mul (by omega))
      have hp := vput_pos f (n / 128)
      cases hv : vput (f + 1) (n / 128) with
      | nil => rw [hv] at hp; simp at hp
      | cons d r =>
        rw [hv] at ih
        simp [contB, ih]
        omega
theorem dg_vput : ∀ f n, n < 128 ^ f → dg (vput f n) = n
  | 0, n, h => by simp at h; simp [vput, dg, h]
  | f + 1, n, h => by
    unfold vput
    split
    · simp [dg]; omega
    · have ih := dg_vput f (n / 128) (by rw [Nat.pow_succ] at h; exact Nat.div_lt_of_lt_mul (by omega))
      simp only [dg, ih]
      omega
theorem vput_last : ∀ f n, n < 128 ^ (f + 1) → lastOk (vput (f + 1) n) = true
  | 0, n, h => by
    have : n < 128 := by simpa using h
    simp [vput, this, lastOk]
  | f + 1, n, h => by
    unfold vput
    split
    · simp [lastOk]
    · have hn : n / 128 < 128 ^ (f + 1) := by rw [Nat.pow_succ] at h; exact Nat.div_lt_of_lt_mul (by omega)
      have ih := vput_last f (n / 128) hn
      have hp := vput_pos f (n / 128)
      have hd := dg_vput (f + 1) (n / 128) hn
      have hc := contB_vput f (n / 128) hn
      cases hv : vput (f + 1) (n / 128) with
      | nil => rw [hv] at hp; simp at hp
      | cons d r =>
        rw [hv] at ih hd hc
        cases r with
        | nil =>
          have hb := vput_bytes (f + 1) (n / 128) d (by rw [hv]; simp)
          simp [lastOk]
          simp [dg] at hd
          simp [contB] at hc
          omega
        | cons e r =>
          simp only [lastOk, List.getLastD_cons] at ih ⊢
          exact ih
theorem vput_dg : ∀ (l : List Int) (f : Nat), l.length ≤ f → isBytes l → contB l = true → lastOk l = true → vput f (dg l) = l
  | [], f, _, _, h, _ => by simp [contB] at h
  | [c], f, hf, hb, hc, _ => by
    obtain ⟨f, rfl⟩ : ∃ m, f = m + 1 := ⟨f - 1, by simp at hf; omega⟩
    have := hb c (by simp)
    simp [contB] at hc
    have h1 : (c % 128).toNat = c.toNat := by omega
    have h2 : c.toNat < 128 := by omega
    simp [dg, vput, h1, h2]
    omega
  | c :: d :: r, f, hf, hb, hc, hl => by
    obtain ⟨f, rfl⟩ : ∃ m, f = m + 1 := ⟨f - 1, by simp at hf; omega⟩
    have hbc := hb c (by simp)
    simp [contB] at hc
    have hpos : 0 < dg (d :: r) ∧ lastOk (d :: r) = true := by
      simp only [lastOk, decide_eq_true_eq] at hl
      constructor
      · have : ∀ (q : List Int) (x : Int), isBytes (x :: q) → contB (x :: q) = true → 0 < q.getLastD x → 0 < dg (x :: q) := by
          intro q
          induction q with
          | nil =>
            intro x hb hc hp
            simp [contB] at hc
            simp at hp
            simp [dg]
            omega
          | cons y q ih =>
            intro x hb hc hp
            simp [contB] at hc
            rw [List.getLastD_cons] at hp
            have := ih y (fun z hz => hb z (by simp at hz ⊢; right; exact hz)) hc.2 hp
            have hdg : dg (x :: y :: q) = (x % 128).toNat + 128 * dg (y :: q) := rfl
            omega
        exact this r d (fun z hz => hb z (by simp at hz ⊢; right; exact hz)) hc.2 hl
      · cases r with
        | nil => rfl
        | cons e r =>
          rw [List.getLastD_cons] at hl
          simp only [lastOk, decide_eq_true_eq]
          exact hl
    have ih := vput_dg (d :: r) f (by simp at hf ⊢; omega) (fun z hz => hb z (by simp at hz ⊢; right; exact hz)) hc.2 hpos.2
    have hdg : dg (c :: d :: r) = (c % 128).toNat + 128 * dg (d :: r) := rfl
    have hge : ¬ dg (c :: d :: r) < 128 := by omega
    rw [vput, if_neg hge]
    have h3 : dg (c :: d :: r) / 128 = dg (d :: r) := by omega
    rw [h3, ih]
    congr 1
    omega
theorem dg_bound : ∀ (l : List Int), isBytes l → dg l < 128 ^ l.length
  | [], _ => by simp [dg]
  | c :: r, hb => by
    have ih := dg_bound r (fun z hz => hb z (by simp [hz]))
    have := hb c (by simp)
    simp only [dg, List.length_cons, Nat.pow_succ]
    omega
theorem bytesOf_inj : ∀ (a b : List Int), isBytes a → isBytes b → bytesOf a = bytesOf b → a = b := by
  intro a b ha hb h
  have h1 : (a.map fun n => UInt8.ofNat n.toNat) = (b.map fun n => UInt8.ofNat n.toNat) := by
    have : (bytesOf a).data.toList = (bytesOf b).data.toList := by rw [h]
    simpa [bytesOf] using this
  have h2 : ∀ (a b : List Int), isBytes a → isBytes b → (a.map fun n => UInt8.ofNat n.toNat) = (b.map fun n => UInt8.ofNat n.toNat) → a = b := by
    intro a
    induction a with
    | nil => intro b _ _ h; cases b with | nil => rfl | cons y b => simp at h
    | cons x a ih =>
      intro b ha hb h
      cases b with
      | nil => simp at h
      | cons y b =>
        simp only [List.map_cons, List.cons.injEq] at h
        have hx := ha x (by simp)
        have hy := hb y (by simp)
        have e := congrArg UInt8.toNat h.1
        simp [UInt8.toNat_ofNat'] at e
        rw [ih b (fun z hz => ha z (by simp [hz])) (fun z hz => hb z (by simp [hz])) h.2]
        congr 1
        omega
  exact h2 a b ha hb h1
/-- d bytes from place i on. -/
def bl (s : ByteArray) : Nat → Nat → List Int
  | 0, _ => []
  | d + 1, i => byteAt s (i : Int) :: bl s d (i + 1)
theorem bl_len (s : ByteArray) : ∀ d i, (bl s d i).length = d
  | 0, _ => rfl
  | d + 1, i => by simp [bl, bl_len s d (i + 1)]
theorem bl_bytes (s : ByteArray) : ∀ d i, isBytes (bl s d i)
  | 0, _ => by intro x hx; simp [bl] at hx
  | d + 1, i => by
    intro x hx
    simp [bl] at hx
    rcases hx with rfl | hx
    · have := bt_range s (i : Int); omega
    · exact bl_bytes s d (i + 1) x hx
theorem bl_snoc (s : ByteArray) : ∀ d i, bl s (d + 1) i = bl s d i ++ [byteAt s ((i + d : Nat) : Int)]
  | 0, i => by simp [bl]
  | d + 1, i => by
    have := bl_snoc s d (i + 1)
    rw [bl, this, bl]
    simp
    congr 1
    omega
theorem bt_of (s : ByteArray) (i : Nat) (h : i < s.size) : UInt8.ofNat (byteAt s (i : Int)).toNat = s.data.toList[i]'(by rw [Array.length_toList]; exact h) := by
  rw [bt_data s i h, Int.toNat_natCast, UInt8.ofNat_toNat]
theorem bytesOf_bl (s : ByteArray) : ∀ d, d ≤ s.size → bytesOf (bl s d 0) = s.extract 0 d
  | 0, _ => by
    apply ByteArray.ext
    simp [bl, bytesOf]
  | d + 1, h => by
    have ih := bytesOf_bl s d (by omega)
    rw [bl_snoc, strOfNums_append, ih, Nat.zero_add]
    apply ByteArray.ext
    apply Array.ext'
    have hl : s.data.toList.length = s.size := by rw [Array.length_toList]; rfl
    simp only [bytesOf, ByteArray.data_append, ByteArray.data_extract, Array.toList_append, Array.toList_extract, List.map_cons, List.map_nil, List.extract_eq_take_drop, List.drop_zero, Nat.sub_zero]
    rw [List.take_succ_eq_append_getElem (by omega), bt_of s d (by omega)]
theorem dg_snoc : ∀ (l : List Int) (c : Int), dg (l ++ [c]) = dg l + 128 ^ l.length * (c % 128).toNat
  | [], c => by simp [dg]
  | d :: l, c => by
    simp only [List.cons_append, dg, dg_snoc l c, List.length_cons, Nat.pow_succ, Nat.mul_add]
    have : 128 * (128 ^ l.length * (c % 128).toNat) = 128 ^ l.length * 128 * (c % 128).toNat := by
      rw [← Nat.mul_assoc, Nat.mul_comm 128]
    omega
theorem contB_bl (s : ByteArray) (e : Nat) (h1 : ∀ j, j < e → 128 ≤ byteAt s (j : Int)) (h2 : byteAt s (e : Int) < 128) : ∀ d i, i + d = e → contB (bl s (d + 1) i) = true
  | 0, i, h => by
    obtain rfl : i = e := by omega
    simp [bl, contB, h2]
  | d + 1, i, h => by
    have ih := contB_bl s e h1 h2 d (i + 1) (by omega)
    have e1 : bl s (d + 1 + 1) i = byteAt s (i : Int) :: byteAt s ((i + 1 : Nat) : Int) :: bl s d (i + 1 + 1) := rfl
    have e2 : bl s (d + 1) (i + 1) = byteAt s ((i + 1 : Nat) : Int) :: bl s d (i + 1 + 1) := rfl
    rw [e2] at ih
    rw [e1]
    simp [contB, h1 i (by omega)]
    simpa using ih
theorem getLastD_bl (s : ByteArray) : ∀ d i (a : Int), (bl s d i).getLastD a = if d = 0 then a else byteAt s ((i + d - 1 : Nat) : Int)
  | 0, i, a => by simp [bl]
  | d + 1, i, a => by
    rw [bl_snoc, List.getLastD_concat, if_neg (by omega)]
    congr 1
theorem lastOk_bl (s : ByteArray) (e : Nat) : lastOk (bl s (e + 1) 0) = (decide (e = 0) || decide (0 < byteAt s (e : Int))) := by
  cases e with
  | zero => simp [bl, lastOk]
  | succ e =>
    have e1 : bl s (e + 1 + 1) 0 = byteAt s ((0 : Nat) : Int) :: byteAt s ((1 : Nat) : Int) :: bl s e 2 := rfl
    rw [e1]
    simp only [lastOk, getLastD_bl]
    cases e with
    | zero => simp
    | succ e =>
      have : 2 + (e + 1) - 1 = e + 1 + 1 := by omega
      simp [this]
/-- The first place, from i on within d places, of a byte without a mark. -/
def endAt (s : ByteArray) : Nat → Nat → Option Nat
  | 0, _ => none
  | d + 1, i => if 128 ≤ byteAt s (i : Int) then endAt s d (i + 1) else some i
theorem endAt_some (s : ByteArray) : ∀ d i e, endAt s d i = some e → i ≤ e ∧ e < i + d ∧ byteAt s (e : Int) < 128 ∧ ∀ j, i ≤ j → j < e → 128 ≤ byteAt s (j : Int)
  | 0, i, e, h => by simp [endAt] at h
  | d + 1, i, e, h => by
    unfold endAt at h
    split at h
    · rename_i hb
      obtain ⟨h1, h2, h3, h4⟩ := endAt_some s d (i + 1) e h
      refine ⟨by omega, by omega, h3, fun j hj1 hj2 => ?_⟩
      by_cases hij : j = i
      · rw [hij]; exact hb
      · exact h4 j (by omega) hj2
    · injection h with h
      subst h
      exact ⟨by omega, by omega, by omega, fun j h1 h2 => by omega⟩
theorem endAt_none (s : ByteArray) : ∀ d i, endAt s d i = none → ∀ j, i ≤ j → j < i + d → 128 ≤ byteAt s (j : Int)
  | 0, i, _, j, h1, h2 => by omega
  | d + 1, i, h, j, h1, h2 => by
    unfold endAt at h
    split at h
    · rename_i hb
      by_cases hij : j = i
      · rw [hij]; exact hb
      · exact endAt_none s d (i + 1) h j (by omega) (by omega)
    · cases h
/-- The number with which bytes begin, how many bytes it has, and whether there is one. -/
def getB (s : ByteArray) : Int × Int × Bool :=
  match endAt s s.size 0 with
  | none => (0, 0, false)
  | some e => if e ≤ 9 ∧ (e = 9 → byteAt s (e : Int) ≤ 1) ∧ (e = 0 ∨ 0 < byteAt s (e : Int)) then ((dg (bl s (e + 1) 0) : Int), (e : Int) + 1, true) else (0, 0, false)
theorem wraps_u64 (n : Int) (h₀ : 0 ≤ n) (h₁ : n < 2 ^ 64) : IntKind.u64.wrap n = n := u64_id h₀ (by omega)
theorem or_add (a c m : Nat) (ha : a < 2 ^ m) (hm : m ≤ 63) (hs : a + c * 2 ^ m < 2 ^ 64) : Go.bits .or .u64 (a : Int) ((c * 2 ^ m : Nat) : Int) = ((a + c * 2 ^ m : Nat) : Int) := by
  have hc : c * 2 ^ m < 2 ^ 64 := by omega
  have ha' : a < 2 ^ 64 := Nat.lt_of_lt_of_le ha (Nat.pow_le_pow_right (by omega) (by omega))
  rw [(Go.bits_nat .u64 64 (by decide) wraps_u64 a (c * 2 ^ m) ha' hc).2]
  congr 1
  rw [Nat.or_comm, Nat.mul_comm c, ← Nat.two_pow_add_eq_or_of_lt ha, Nat.add_comm]
theorem and_127 (c : Int) (h0 : 0 ≤ c) (h1 : c < 256) : Go.bits .and .u64 c 127 = c % 128 := by
  have := Go.bits_mask .u64 64 (by decide) wraps_u64 7 (by omega) c h0 (by omega)
  simpa using this
theorem shl_u64 (x m : Nat) (hm : m ≤ 63) (hs : x * 2 ^ m < 2 ^ 64) : IntKind.wrap .u64 ((x : Int) * 2 ^ (min (m : Int).toNat 64)) = ((x * 2 ^ m : Nat) : Int) := by
  have e : min ((m : Int).toNat) 64 = m := by simp; omega
  rw [e]
  have e2 : (x : Int) * 2 ^ m = ((x * 2 ^ m : Nat) : Int) := by simp
  rw [e2]
  exact u64_id (by omega) (by omega)
theorem endAt_is (s : ByteArray) (i : Nat) (hi : i < s.size) (hm : ∀ j, j < i → 128 ≤ byteAt s (j : Int)) (hc : byteAt s (i : Int) < 128) : endAt s s.size 0 = some i := by
  cases h : endAt s s.size 0 with
  | none => have := endAt_none s s.size 0 h i (by omega) (by omega); omega
  | some e =>
    obtain ⟨_, h2, h3, h4⟩ := endAt_some s s.size 0 e h
    rcases Nat.lt_trichotomy e i with h5 | h5 | h5
    · have := hm e h5; omega
    · rw [h5]
    · have := h4 i (by omega) h5; omega
theorem endAt_far (s : ByteArray) (i : Nat) (hm : ∀ j, j < i → 128 ≤ byteAt s (j : Int)) (e : Nat) (h : endAt s s.size 0 = some e) : i ≤ e := by
  obtain ⟨_, h2, h3, h4⟩ := endAt_some s s.size 0 e h
  rcases Nat.lt_or_ge e i with h5 | h5
  · have := hm e h5; omega
  · exact h5
theorem getB_far (s : ByteArray) (i : Nat) (hi : 10 ≤ i ∨ s.size ≤ i) (hm : ∀ j, j < i → 128 ≤ byteAt s (j : Int)) : getB s = (0, 0, false) := by
  unfold getB
  cases h : endAt s s.size 0 with
  | none => rfl
  | some e =>
    have h1 := endAt_far s i hm e h
    obtain ⟨_, h2, _, _⟩ := endAt_some s s.size 0 e h
    have : ¬ e ≤ 9 := by omega
    simp [this]
theorem getB_is (s : ByteArray) (i : Nat) (hi : i < s.size) (hm : ∀ j, j < i → 128 ≤ byteAt s (j : Int)) (hc : byteAt s (i : Int) < 128) :
    getB s = if i ≤ 9 ∧ (i = 9 → byteAt s (i : Int) ≤ 1) ∧ (i = 0 ∨ 0 < byteAt s (i : Int)) then ((dg (bl s (i + 1) 0) : Int), (i : Int) + 1, true) else (0, 0, false) := by
  unfold getB
  rw [endAt_is s i hi hm hc]
/-! the reference -/
/-- The remainder of 64 bits (under a name of its own, so that nobody counts). -/
def mod64 (n : Nat) : Nat := n % 18446744073709551616
theorem mod64_eq (n : Nat) : mod64 n = n % 18446744073709551616 := rfl
theorem mod64_lt (n : Nat) : mod64 n < 18446744073709551616 := by rw [mod64_eq]; omega
theorem mod64_small {n : Nat} (h : n < 18446744073709551616) : mod64 n = n := by rw [mod64_eq]; omega
theorem numB_is (n : Nat) (hn : n < 128 ^ 10) (s : ByteArray) (e : Nat) (he : e < s.size) (h9 : e ≤ 9) (hm : ∀ j, j < e → 128 ≤ byteAt s (j : Int)) (hc : byteAt s (e : Int) < 128) (h64 : n = mod64 (dg (bl s (e + 1) 0))) :
    ((numB n).toList = (s.extract 0 (e + 1)).toList) ↔ ((e = 9 → byteAt s (e : Int) ≤ 1) ∧ (e = 0 ∨ 0 < byteAt s (e : Int))) := by
  have hcont := contB_bl s e hm hc e 0 (by omega)
  have hlast := lastOk_bl s e
  have hlen := bl_len s (e + 1) 0
  have hby := bl_bytes s (e + 1) 0
  have hx := bytesOf_bl s (e + 1) (by omega)
  have hsn : dg (bl s (e + 1) 0) = dg (bl s e 0) + 128 ^ e * (byteAt s (e : Int) % 128).toNat := by
    rw [bl_snoc, dg_snoc, bl_len, Nat.zero_add]
  have hd := dg_bound (bl s e 0) (bl_bytes s e 0)
  rw [bl_len] at hd
  have hr := bt_range s (e : Int)
  have hv : (byteAt s (e : Int) % 128).toNat = (byteAt s (e : Int)).toNat := by omega
  constructor
  · intro h
    have h1 := bytes_ext h
    unfold numB at h1
    rw [← hx] at h1
    have h2 := bytesOf_inj _ _ (vput_bytes 10 n) hby h1
    have h3 : dg (bl s (e + 1) 0) = n := by rw [← h2]; exact dg_vput 10 n hn
    have h4 : lastOk (bl s (e + 1) 0) = true := by rw [← h2]; exact vput_last 9 n hn
    rw [hlast] at h4
    refine ⟨fun h9' => ?_, by simpa using h4⟩
    subst h9'
    rw [h3, hv] at hsn
    have : n < 18446744073709551616 := by rw [h64]; exact mod64_lt _
    have h5 : (byteAt s ((9 : Nat) : Int)).toNat ≤ 1 := by
      rcases Nat.lt_or_ge 1 (byteAt s ((9 : Nat) : Int)).toNat with h6 | h6
      · have : 128 ^ 9 * 2 ≤ 128 ^ 9 * (byteAt s ((9 : Nat) : Int)).toNat := Nat.mul_le_mul_left _ h6
        omega
      · exact h6
    omega
  · rintro ⟨h1, h2⟩
    have h4 : lastOk (bl s (e + 1) 0) = true := by rw [hlast]; simpa using h2
    have h5 := vput_dg (bl s (e + 1) 0) 10 (by omega) hby hcont h4
    have h6 : dg (bl s (e + 1) 0) < 18446744073709551616 := by
      by_cases he9 : e = 9
      · subst he9
        have := h1 rfl
        have : (byteAt s ((9 : Nat) : Int)).toNat ≤ 1 := by omega
        have : 128 ^ 9 * (byteAt s ((9 : Nat) : Int)).toNat ≤ 128 ^ 9 * 1 := Nat.mul_le_mul_left _ this
        rw [hsn, hv]
        omega
      · have := dg_bound (bl s (e + 1) 0) hby
        rw [hlen] at this
        have h7 : 128 ^ (e + 1) ≤ 128 ^ 9 := Nat.pow_le_pow_right (by omega) (by omega)
        omega
    have h7 : n = dg (bl s (e + 1) 0) := by rw [h64, mod64_small h6]
    unfold numB
    rw [h7, h5, hx]
theorem lim70 {n : Nat} (h : n < 18446744073709551616) : n < 128 ^ 10 := by omega

theorem get_or (s : ByteArray) (i : Nat) (h9 : i ≤ 9) (hc : i = 9 → byteAt s (i : Int) ≤ 1) :
    IntKind.wrap .u64 ((BitVec.ofInt 64 ((dg (bl s i 0) : Nat) : Int) ||| BitVec.ofInt 64 (IntKind.wrap .u64 ((IntKind.wrap .u64 ((BitVec.ofInt 64 (IntKind.wrap .u64 (byteAt s (i : Int))) &&& BitVec.ofInt 64 127).toNat : Int)) * 2 ^ (min (w64 (7 * (i : Int))).toNat 64)))).toNat : Int) = ((dg (bl s (i + 1) 0) : Nat) : Int) := by
  have hr := bt_range s (i : Int)
  have hp : 128 ^ i = 2 ^ (7 * i) := by rw [show (128 : Nat) = 2 ^ 7 from rfl, ← Nat.pow_mul]
  have hd := dg_bound (bl s i 0) (bl_bytes s i 0)
  rw [bl_len, hp] at hd
  obtain ⟨x, hx⟩ : ∃ x : Nat, byteAt s (i : Int) % 128 = x := ⟨(byteAt s (i : Int) % 128).toNat, by omega⟩
  have hx2 : x ≤ 127 := by omega
  have hb : dg (bl s i 0) + x * 2 ^ (7 * i) < 2 ^ 64 ∧ x * 2 ^ (7 * i) < 2 ^ 64 := by
    by_cases h : i = 9
    · subst h
      have := hc rfl
      have : x ≤ 1 := by omega
      have : x * 2 ^ (7 * 9) ≤ 1 * 2 ^ (7 * 9) := Nat.mul_le_mul_right _ this
      omega
    · have h1 : 2 ^ (7 * i) ≤ 2 ^ 56 := Nat.pow_le_pow_right (by omega) (by omega)
      have : x * 2 ^ (7 * i) ≤ 127 * 2 ^ 56 := Nat.mul_le_mul hx2 h1
      omega
  have e1 : IntKind.wrap .u64 ((BitVec.ofInt 64 (IntKind.wrap .u64 (byteAt s (i : Int))) &&& BitVec.ofInt 64 127).toNat : Int) = (x : Int) := by
    rw [u64_id hr.1 (by omega), ← hx]
    exact and_127 _ hr.1 (by omega)
  rw [e1, w64_id (by omega) (by omega), show (7 * (i : Int)) = ((7 * i : Nat) : Int) by omega, shl_u64 x (7 * i) (by omega) hb.2]
  refine (or_add _ x (7 * i) hd (by omega) hb.1).trans ?_
  congr 1
  rw [bl_snoc, dg_snoc, bl_len, hp, Nat.zero_add, hx, Int.toNat_natCast, Nat.mul_comm]
theorem min10 (n : Nat) : (if (10 : Int) < (n : Int) then (10 : Int) else (n : Int)) = ((min n 10 : Nat) : Int) := by split <;> omega
theorem Get_l (s : ByteArray) (hs : s.size ≤ 140737488351232) : ∀ d i : Nat, i + d = min s.size 10 → (∀ j, j < i → 128 ≤ byteAt s (j : Int)) →
    V.varint_Get.l1010 s ((dg (bl s i 0) : Nat) : Int) (i : Int) = some (getB s)
  | 0, i, h, hm => by
    refine V.varint_Get.l1010.of _ _ _ ?_
    unfold F.varint_Get.l1010.B
    rw [min10, if_out (by omega), getB_far s i (by omega) hm]
  | d + 1, i, h, hm => by
    refine V.varint_Get.l1010.of _ _ _ ?_
    unfold F.varint_Get.l1010.B
    have hr := bt_range s (i : Int)
    have hi : i < s.size := by omega
    have ih : byteAt s (i : Int) ≥ 128 → V.varint_Get.l1010 s ((dg (bl s (i + 1) 0) : Nat) : Int) ((i + 1 : Nat) : Int) = some (getB s) := fun hc => Get_l s hs d (i + 1) (by omega) (fun j hj => by
      by_cases hij : j = i
      · rw [hij]; omega
      · exact hm j (by omega))
    have eu : IntKind.wrap .u64 (byteAt s (i : Int)) = byteAt s (i : Int) := u64_id hr.1 (by omega)
    rw [min10, if_in (by omega), guard_in hi]
    have e7 : w64 (7 * (i : Int)) = 7 * (i : Int) := w64_id (by omega) (by omega)
    have e8 : w64 ((i : Int) + 1) = ((i + 1 : Nat) : Int) := w64_up hi hs
    have rest : (i = 9 → byteAt s (i : Int) ≤ 1) → (if (w64 (7 * (i : Int))) < 0 then none else (bif (decide ((IntKind.wrap .u64 (byteAt s (i : Int))) ≥ 128)) then (V.varint_Get.l1010 s ((dg (bl s (i + 1) 0) : Nat) : Int) (w64 ((i : Int) + 1))) else (bif ((IntKind.wrap .u64 (byteAt s (i : Int))) == 0) then (bif (decide ((i : Int) > 0)) then (some (0, 0, false)) else (some (((dg (bl s (i + 1) 0) : Nat) : Int), (w64 ((i : Int) + 1)), true))) else (some (((dg (bl s (i + 1) 0) : Nat) : Int), (w64 ((i : Int) + 1)), true))))) = some (getB s) := by
      intro hc9
      rw [e7, e8, if_neg (by omega), eu]
      by_cases hc : byteAt s (i : Int) < 128
      · rw [if_no (by omega), getB_is s i hi hm hc]
        by_cases h0 : byteAt s (i : Int) = 0
        · rw [show (byteAt s (i : Int) == 0) = true by simp [h0], cond_true]
          by_cases hi0 : i = 0
          · rw [if_no (by omega), if_pos ⟨by omega, hc9, Or.inl hi0⟩]; rfl
          · rw [if_yes (by omega), if_neg (by rintro ⟨_, _, h3⟩; omega)]
        · rw [show (byteAt s (i : Int) == 0) = false by simp [h0], cond_false, if_pos ⟨by omega, hc9, Or.inr (by omega)⟩]; rfl
      · rw [if_yes (by omega)]
        exact ih (by omega)
    by_cases h9 : i = 9
    · rw [show ((i : Int) == 9) = true by simp; omega, cond_true]
      by_cases hb : byteAt s (i : Int) ≤ 1
      · rw [if_no (by rw [eu]; omega), get_or s i (by omega) (fun _ => hb)]
        exact rest (fun _ => hb)
      · rw [if_yes (by rw [eu]; omega)]
        by_cases hc : byteAt s (i : Int) < 128
        · rw [getB_is s i hi hm hc, if_neg (by rintro ⟨_, h1, _⟩; have := h1 h9; omega)]
        · rw [getB_far s (i + 1) (by omega) (fun j hj => by
            by_cases hij : j = i
            · rw [hij]; omega
            · exact hm j (by omega))]
    · rw [show ((i : Int) == 9) = false by simp; omega, cond_false, get_or s i (by omega) (fun h => absurd h h9)]
      exact rest (fun h => absurd h h9)
theorem Get_ok (s : ByteArray) (hs : s.size ≤ 140737488351232) : V.varint_Get s = some (getB s) := by
  refine V.varint_Get.of _ ?_
  unfold F.varint_Get.B
  have := Get_l s hs (min s.size 10) 0 (by omega) (fun j hj => by omega)
  simpa [bl, dg] using this
/-! ### What stands where -/

/-- These bytes stand in s at place a. -/
def AtB (s : ByteArray) (a : Nat) (B : ByteArray) : Prop := a + B.size ≤ s.size ∧ s.extract a (a + B.size) = B
theorem dlen (s : ByteArray) : s.data.toList.length = s.size := data_len s
theorem extract_toList (s : ByteArray) (a b : Nat) : (s.extract a b).data.toList = (s.data.toList.drop a).take (b - a) := by
  rw [ByteArray.data_extract, Array.toList_extract, List.extract_eq_take_drop]
theorem at_iff (s : ByteArray) (a : Nat) (B : ByteArray) (h : a ≤ s.size) : AtB s a B ↔ B.data.toList <+: s.data.toList.drop a := by
  have hl := dlen s
  have hb := dlen B
  constructor
  · rintro ⟨h1, h2⟩
    have h3 := extract_toList s a (a + B.size)
    rw [h2] at h3
    rw [h3]
    exact List.take_prefix _ _
  · intro hp
    have hle := hp.length_le
    rw [List.length_drop, hl, hb] at hle
    refine ⟨by omega, ?_⟩
    apply ByteArray.ext
    apply Array.ext'
    rw [extract_toList]
    have := List.prefix_iff_eq_take.1 hp
    rw [hb] at this
    rw [show a + B.size - a = B.size by omega]
    exact this.symm
theorem at_append (s : ByteArray) (a : Nat) (X Y : ByteArray) : AtB s a (X ++ Y) ↔ AtB s a X ∧ AtB s (a + X.size) Y := by
  have hs := ByteArray.size_append (a := X) (b := Y)
  have hx := dlen X
  constructor
  · rintro ⟨h1, h2⟩
    have ha : a ≤ s.size := by omega
    have hp := (at_iff s a (X ++ Y) ha).1 ⟨h1, h2⟩
    rw [ByteArray.data_append, Array.toList_append] at hp
    refine ⟨(at_iff s a X ha).2 (List.IsPrefix.trans (List.prefix_append _ _) hp), (at_iff s _ Y (by omega)).2 ?_⟩
    obtain ⟨t, ht⟩ := hp
    refine ⟨t, ?_⟩
    rw [← List.drop_drop, ← ht, List.append_assoc, ← hx, List.drop_left]
  · rintro ⟨h1, h2⟩
    have ha : a ≤ s.size := by have := h1.1; omega
    have hp := (at_iff s a X ha).1 h1
    have hq := (at_iff s (a + X.size) Y (by have := h2.1; omega)).1 h2
    refine (at_iff s a (X ++ Y) ha).2 ?_
    rw [ByteArray.data_append, Array.toList_append]
    obtain ⟨t, ht⟩ := hp
    obtain ⟨u, hu⟩ := hq
    refine ⟨u, ?_⟩
    rw [← List.drop_drop, ← ht, ← hx, List.drop_left] at hu
    rw [List.append_assoc, hu, ht]
theorem at_le {s : ByteArray} {a : Nat} {B : ByteArray} (h : AtB s a B) : a + B.size ≤ s.size := h.1
theorem at_whole (s : ByteArray) : AtB s 0 s := ⟨by omega, by simp⟩
theorem at_all {s B : ByteArray} (h : AtB s 0 B) (hs : B.size = s.size) : B = s := by
  have := h.2
  rw [Nat.zero_add, hs] at this
  rw [← this]
  simp
theorem tail_extract (s : ByteArray) (a m : Nat) (h : a + m ≤ s.size) : (s.extract a s.size).extract 0 m = s.extract a (a + m) := by
  apply ByteArray.ext
  apply Array.ext'
  rw [extract_toList, extract_toList, extract_toList, List.drop_zero, List.take_take]
  congr 1
  omega
theorem tail_size (s : ByteArray) (a : Nat) : (s.extract a s.size).size = s.size - a := by rw [ByteArray.size_extract]; omega

theorem contB_bl_conv (s : ByteArray) : ∀ d i, contB (bl s (d + 1) i) = true → (∀ j, i ≤ j → j < i + d → 128 ≤ byteAt s (j : Int)) ∧ byteAt s ((i + d : Nat) : Int) < 128
  | 0, i, h => by
    simp [bl, contB] at h
    exact ⟨fun j h1 h2 => by omega, by simpa using h⟩
  | d + 1, i, h => by
    have e1 : bl s (d + 1 + 1) i = byteAt s (i : Int) :: byteAt s ((i + 1 : Nat) : Int) :: bl s d (i + 1 + 1) := rfl
    have e2 : bl s (d + 1) (i + 1) = byteAt s ((i + 1 : Nat) : Int) :: bl s d (i + 1 + 1) := rfl
    rw [e1] at h
    simp only [contB, Bool.and_eq_true, decide_eq_true_eq] at h
    rw [← e2] at h
    obtain ⟨h1, h2⟩ := contB_bl_conv s d (i + 1) h.2
    refine ⟨fun j hj1 hj2 => ?_, by rw [show i + (d + 1) = i + 1 + d by omega]; exact h2⟩
    by_cases hij : j = i
    · rw [hij]; exact h.1
    · exact h1 j (by omega) (by omega)
theorem dg_lt (s : ByteArray) (e : Nat) (h9 : e ≤ 9) (hc : byteAt s (e : Int) < 128) (h1 : e = 9 → byteAt s (e : Int) ≤ 1) : dg (bl s (e + 1) 0) < 18446744073709551616 := by
  have hby := bl_bytes s (e + 1) 0
  have hlen := bl_len s (e + 1) 0
  have hsn : dg (bl s (e + 1) 0) = dg (bl s e 0) + 128 ^ e * (byteAt s (e : Int) % 128).toNat := by rw [bl_snoc, dg_snoc, bl_len, Nat.zero_add]
  have hd := dg_bound (bl s e 0) (bl_bytes s e 0)
  rw [bl_len] at hd
  have hr := bt_range s (e : Int)
  have hv : (byteAt s (e : Int) % 128).toNat = (byteAt s (e : Int)).toNat := by omega
  by_cases he9 : e = 9
  · subst he9
    have := h1 rfl
    have : (byteAt s ((9 : Nat) : Int)).toNat ≤ 1 := by omega
    have : 128 ^ 9 * (byteAt s ((9 : Nat) : Int)).toNat ≤ 128 ^ 9 * 1 := Nat.mul_le_mul_left _ this
    rw [hsn, hv]
    omega
  · have := dg_bound (bl s (e + 1) 0) hby
    rw [hlen] at this
    have h7 : 128 ^ (e + 1) ≤ 128 ^ 9 := Nat.pow_le_pow_right (by omega) (by omega)
    omega
/-- A number's own bytes, and only they, are read as it. -/
theorem getB_iff (x : ByteArray) (N m : Nat) (h64 : N < 18446744073709551616) : getB x = ((N : Int), (m : Int), true) ↔ (m = (numB N).size ∧ AtB x 0 (numB N)) := by
  constructor
  · intro h
    cases he : endAt x x.size 0 with
    | none => unfold getB at h; rw [he] at h; simp at h
    | some e =>
      obtain ⟨_, h2, h3, h4⟩ := endAt_some x x.size 0 e he
      rw [getB_is x e (by omega) (fun j hj => h4 j (by omega) hj) h3] at h
      by_cases hq : e ≤ 9 ∧ (e = 9 → byteAt x (e : Int) ≤ 1) ∧ (e = 0 ∨ 0 < byteAt x (e : Int))
      · rw [if_pos hq] at h
        simp only [Prod.mk.injEq] at h
        have hN : dg (bl x (e + 1) 0) = N := by omega
        have hm : m = e + 1 := by omega
        have key := (numB_is N (lim70 h64) x e (by omega) hq.1 (fun j hj => h4 j (by omega) hj) h3 (by rw [hN, mod64_small h64])).2 ⟨hq.2.1, hq.2.2⟩
        have hb := bytes_ext key
        have hz : (numB N).size = e + 1 := by rw [hb, ByteArray.size_extract]; omega
        exact ⟨by omega, by omega, by rw [hz, Nat.zero_add, ← hb]⟩
      · rw [if_neg hq] at h
        simp at h
  · rintro ⟨rfl, h1, h2⟩
    have hp : 0 < (vput 10 N).length := vput_pos 9 N
    have hz : (numB N).size = (vput 10 N).length := strOfNums_size _
    obtain ⟨e, he⟩ : ∃ e, (numB N).size = e + 1 := ⟨(numB N).size - 1, by omega⟩
    rw [Nat.zero_add] at h1 h2
    have hx := bytesOf_bl x (numB N).size h1
    rw [h2] at hx
    have hl := bytesOf_inj _ _ (bl_bytes x _ 0) (vput_bytes 10 N) hx
    have hc := contB_vput 9 N (lim70 h64)
    rw [← hl, he] at hc
    obtain ⟨g1, g2⟩ := contB_bl_conv x e 0 hc
    rw [Nat.zero_add] at g2
    have h10 := numB_size N
    have hdg : dg (bl x (e + 1) 0) = N := by rw [← he, hl]; exact dg_vput 10 N (lim70 h64)
    have key := (numB_is N (lim70 h64) x e (by omega) (by omega) (fun j hj => g1 j (by omega) (by omega)) g2 (by rw [hdg, mod64_small h64])).1 (by rw [← he, h2])
    rw [getB_is x e (by omega) (fun j hj => g1 j (by omega) (by omega)) g2, if_pos ⟨by omega, key.1, key.2⟩, hdg, he]
    rfl
theorem getB_form (x : ByteArray) : (∃ N m : Nat, N < 18446744073709551616 ∧ getB x = ((N : Int), (m : Int), true)) ∨ getB x = (0, 0, false) := by
  unfold getB
  cases he : endAt x x.size 0 with
  | none => exact .inr rfl
  | some e =>
    obtain ⟨_, h2, h3, h4⟩ := endAt_some x x.size 0 e he
    by_cases hq : e ≤ 9 ∧ (e = 9 → byteAt x (e : Int) ≤ 1) ∧ (e = 0 ∨ 0 < byteAt x (e : Int))
    · left
      exact ⟨dg (bl x (e + 1) 0), e + 1, dg_lt x e hq.1 h3 hq.2.1, by simp only [if_pos hq]; rfl⟩
    · right
      simp only [if_neg hq]
/-- The number, of at most 64 bits, whose bytes stand at a place, and the place behind it. -/
def uP (s : ByteArray) (a : Nat) : Option (Nat × Nat) := if (getB (s.extract a s.size)).2.2 = true then some ((getB (s.extract a s.size)).1.toNat, a + (getB (s.extract a s.size)).2.1.toNat) else none
theorem uP_iff (s : ByteArray) (a N b : Nat) (ha : a ≤ s.size) : uP s a = some (N, b) ↔ N < 18446744073709551616 ∧ b = a + (numB N).size ∧ AtB s a (numB N) := by
  have tr : ∀ B : ByteArray, AtB (s.extract a s.size) 0 B ↔ AtB s a B := by
    intro B
    unfold AtB
    rw [tail_size, Nat.zero_add]
    constructor
    · rintro ⟨h1, h2⟩; exact ⟨by omega, by rw [← tail_extract s a B.size (by omega)]; exact h2⟩
    · rintro ⟨h1, h2⟩; exact ⟨by omega, by rw [tail_extract s a B.size (by omega)]; exact h2⟩
  unfold uP
  rcases getB_form (s.extract a s.size) with ⟨M, m, hM, hg⟩ | hg
  · have := (getB_iff _ M m hM).1 hg
    rw [hg]
    simp only [if_true, Int.toNat_natCast, Option.some.injEq, Prod.mk.injEq]
    constructor
    · rintro ⟨rfl, rfl⟩
      exact ⟨hM, by rw [this.1], (tr _).1 this.2⟩
    · rintro ⟨h1, h2, h3⟩
      have g := (getB_iff (s.extract a s.size) N (numB N).size h1).2 ⟨rfl, (tr _).2 h3⟩
      rw [hg] at g
      simp only [Prod.mk.injEq] at g
      omega
  · rw [hg]
    simp only [Bool.false_eq_true, if_false]
    constructor
    · intro h; cases h
    · rintro ⟨h1, h2, h3⟩
      have g := (getB_iff (s.extract a s.size) N (numB N).size h1).2 ⟨rfl, (tr _).2 h3⟩
      rw [hg] at g
      simp at g
def numP (most : Nat) (s : ByteArray) (a : Nat) : Option (Nat × Nat) := (uP s a).bind fun x => if x.1 ≤ most then some x else none
theorem numP_iff (most : Nat) (hm : most < 18446744073709551616) (s : ByteArray) (a N b : Nat) (ha : a ≤ s.size) : numP most s a = some (N, b) ↔ N ≤ most ∧ b = a + (numB N).size ∧ AtB s a (numB N) := by
  unfold numP
  rw [Option.bind_eq_some_iff]
  constructor
  · rintro ⟨⟨M, c⟩, h1, h2⟩
    split at h2
    · rename_i h3
      simp only [Option.some.injEq, Prod.mk.injEq] at h2
      obtain ⟨rfl, rfl⟩ := h2
      exact ⟨h3, ((uP_iff s a M c ha).1 h1).2⟩
    · cases h2
  · rintro ⟨h1, h2, h3⟩
    exact ⟨(N, b), (uP_iff s a N b ha).2 ⟨by omega, h2, h3⟩, by rw [if_pos h1]⟩
def fixP (n : Nat) (s : ByteArray) (a : Nat) : Option (ByteArray × Nat) := if a + n ≤ s.size then some (s.extract a (a + n), a + n) else none
theorem fixP_iff (n : Nat) (s : ByteArray) (a : Nat) (t : ByteArray) (b : Nat) : fixP n s a = some (t, b) ↔ t.size = n ∧ b = a + n ∧ AtB s a t := by
  unfold fixP AtB
  constructor
  · intro h
    split at h
    · rename_i h1
      simp only [Option.some.injEq, Prod.mk.injEq] at h
      obtain ⟨rfl, rfl⟩ := h
      have : (s.extract a (a + n)).size = n := by rw [ByteArray.size_extract]; omega
      exact ⟨this, rfl, by omega, by rw [this]⟩
    · cases h
  · rintro ⟨rfl, rfl, h1, h2⟩
    rw [if_pos h1, h2]
def textP (most : Nat) (s : ByteArray) (a : Nat) : Option (ByteArray × Nat) := (numP most s a).bind fun x => fixP x.1 s x.2
theorem textP_iff (most : Nat) (hm : most < 18446744073709551616) (s : ByteArray) (a : Nat) (t : ByteArray) (b : Nat) (ha : a ≤ s.size) : textP most s a = some (t, b) ↔ t.size ≤ most ∧ b = a + (textB t).size ∧ AtB s a (textB t) := by
  unfold textP textB
  rw [Option.bind_eq_some_iff, at_append, ByteArray.size_append]
  constructor
  · rintro ⟨⟨N, c⟩, h1, h2⟩
    obtain ⟨g1, rfl, g3⟩ := (numP_iff most hm s a N c ha).1 h1
    obtain ⟨rfl, rfl, k3⟩ := (fixP_iff _ _ _ _ _).1 h2
    exact ⟨g1, by simp only; omega, g3, k3⟩
  · rintro ⟨h1, h2, h3, h4⟩
    exact ⟨(t.size, a + (numB t.size).size), (numP_iff most hm s a _ _ ha).2 ⟨h1, rfl, h3⟩, (fixP_iff _ _ _ _ _).2 ⟨rfl, by simp only; omega, h4⟩⟩
end Go.Proofs.YthnhkaaodghpgaaDoor.AE
end
section
set_option linter.unusedVariables false
set_option linter.unusedSimpArgs false
set_option maxRecDepth 4000
namespace Go.Proofs.YthnhkaaodghpgaaDoor.AE
open Go

theorem uP_get (s : ByteArray) (a : Nat) (hs : s.size ≤ 140737488351232) : (∃ N m : Nat, N < 18446744073709551616 ∧ getB (s.extract a s.size) = ((N : Int), (m : Int), true) ∧ uP s a = some (N, a + m)) ∨ (getB (s.extract a s.size) = (0, 0, false) ∧ uP s a = none) := by
  unfold uP
  rcases getB_form (s.extract a s.size) with ⟨N, m, hN, hg⟩ | hg
  · left; exact ⟨N, m, hN, hg, by rw [hg]; simp⟩
  · right; exact ⟨hg, by rw [hg]; simp⟩
theorem uP_le (s : ByteArray) (a N b : Nat) (ha : a ≤ s.size) (h : uP s a = some (N, b)) : N < 18446744073709551616 ∧ b ≤ s.size := by
  obtain ⟨h1, h2, h3⟩ := (uP_iff s a N b ha).1 h
  have := h3.1
  exact ⟨h1, by omega⟩
theorem Err_ok (s : ByteArray) (p e : Int) : V.scan_Scan_Err (s, p, e, true) = some (e, s, p, e, true) := by
  refine V.scan_Scan_Err.of _ ?_
  unfold F.scan_Scan_Err.B
  rfl
theorem fail_ok (s : ByteArray) (p e f : Int) : V.scan_Scan_fail (s, p, e, true) f = some (s, p, if e = 0 then f else e, true) := by
  refine V.scan_Scan_fail.of _ _ ?_
  unfold F.scan_Scan_fail.B
  dsimp only
  rw [Err_ok, Option.bind_some]
  by_cases h : e = 0 <;> simp [Bool.cond_eq_ite, h]
theorem Num_both (s : ByteArray) (hs : s.size ≤ 140737488351232) (a : Nat) (ha : a ≤ s.size) (most : Nat) (hm : most ≤ 100000) :
    (∃ n b, numP most s a = some (n, b) ∧ V.scan_Scan_Num (s, (a : Int), 0, true) (most : Int) = some ((n : Int), s, (b : Int), 0, true)) ∨
    (numP most s a = none ∧ ∃ e : Int, e ≠ 0 ∧ V.scan_Scan_Num (s, (a : Int), 0, true) (most : Int) = some (0, s, (a : Int), e, true)) := by
  have hx := extract_size s a s.size
  have B : ∀ {r}, F.scan_Scan_Num.B V.scan_Scan_Err V.varint_Get V.scan_Scan_fail (s, (a : Int), 0, true) (most : Int) = some r → V.scan_Scan_Num (s, (a : Int), 0, true) (most : Int) = some r := V.scan_Scan_Num.of _ _
  unfold F.scan_Scan_Num.B at B
  dsimp only at B
  rw [Err_ok, Option.bind_some] at B
  dsimp only at B
  rw [guard_of (by simp; omega), nat_cast, nat_cast, Get_ok _ (by omega), Option.bind_some] at B
  simp only [bne_self_eq_false, cond_false] at B
  unfold numP
  rcases uP_get s a hs with ⟨N, m, hN, hg, hu⟩ | ⟨hg, hu⟩
  · have hb := (uP_le s a N (a + m) ha hu).2
    rw [hg] at B
    rw [hu, Option.bind_some]
    dsimp only at B ⊢
    simp only [Bool.not_true, cond_false] at B
    rw [if_no (show ¬ (most : Int) < 0 by omega), u64_id (x := (most : Int)) (by omega) (by omega)] at B
    by_cases hle : N ≤ most
    · left
      refine ⟨N, a + m, by rw [if_pos hle], B ?_⟩
      rw [if_no (by omega), w64_id (by omega) (by omega), w64_id (by omega) (by omega)]
      rfl
    · right
      refine ⟨by rw [if_neg hle], 5, by omega, B ?_⟩
      rw [if_yes (by omega), fail_ok, Option.bind_some]
      rfl
  · right
    rw [hg] at B
    rw [hu]
    dsimp only at B ⊢
    refine ⟨rfl, 3, by omega, B ?_⟩
    rw [fail_ok, Option.bind_some]
    rfl
theorem take_err (s : ByteArray) (p e : Int) (he : e ≠ 0) (n : Int) : V.scan_Scan_take (s, p, e, true) n = some (⟨#[]⟩, s, p, e, true) := by
  refine V.scan_Scan_take.of _ _ ?_
  unfold F.scan_Scan_take.B
  dsimp only
  rw [Err_ok, Option.bind_some]
  simp [Bool.cond_eq_ite, he]
theorem take_both (s : ByteArray) (hs : s.size ≤ 140737488351232) (a : Nat) (ha : a ≤ s.size) (n : Nat) (hn : n ≤ 140737488351232) :
    (∃ t b, fixP n s a = some (t, b) ∧ V.scan_Scan_take (s, (a : Int), 0, true) (n : Int) = some (t, s, (b : Int), 0, true)) ∨
    (fixP n s a = none ∧ V.scan_Scan_take (s, (a : Int), 0, true) (n : Int) = some (⟨#[]⟩, s, (a : Int), 3, true)) := by
  have B : ∀ {r}, F.scan_Scan_take.B V.scan_Scan_Err (s, (a : Int), 0, true) (n : Int) = some r → V.scan_Scan_take (s, (a : Int), 0, true) (n : Int) = some r := V.scan_Scan_take.of _ _
  unfold F.scan_Scan_take.B at B
  dsimp only at B
  rw [Err_ok, Option.bind_some] at B
  dsimp only at B
  simp only [bne_self_eq_false, cond_false] at B
  rw [if_no (show ¬ (n : Int) < 0 by omega), w64_id (x := (s.size : Int) - (a : Int)) (by omega) (by omega), w64_id (x := (a : Int) + (n : Int)) (by omega) (by omega)] at B
  unfold fixP
  by_cases hle : a + n ≤ s.size
  · left
    refine ⟨s.extract a (a + n), a + n, by rw [if_pos hle], B ?_⟩
    rw [if_no (by omega), guard_of (by simp; omega)]
    rfl
  · right
    refine ⟨by rw [if_neg hle], B ?_⟩
    rw [if_yes (by omega)]
theorem numP_le {most : Nat} {s : ByteArray} {a n b : Nat} (ha : a ≤ s.size) (h : numP most s a = some (n, b)) : n ≤ most ∧ b ≤ s.size := by
  unfold numP at h
  obtain ⟨⟨M, c⟩, h1, h2⟩ := Option.bind_eq_some_iff.1 h
  split at h2
  · rename_i h3
    simp only [Option.some.injEq, Prod.mk.injEq] at h2
    obtain ⟨rfl, rfl⟩ := h2
    exact ⟨h3, (uP_le s a _ _ ha h1).2⟩
  · cases h2
theorem fixP_le {n : Nat} {s : ByteArray} {a : Nat} {t : ByteArray} {b : Nat} (h : fixP n s a = some (t, b)) : b ≤ s.size ∧ t.size = n := by
  obtain ⟨h1, h2, h3⟩ := (fixP_iff n s a t b).1 h
  have := h3.1
  exact ⟨by omega, h1⟩
theorem Text_both (s : ByteArray) (hs : s.size ≤ 140737488351232) (a : Nat) (ha : a ≤ s.size) (most : Nat) (hm : most ≤ 100000) :
    (∃ t b, textP most s a = some (t, b) ∧ b ≤ s.size ∧ t.size ≤ most ∧ V.scan_Scan_Text (s, (a : Int), 0, true) (most : Int) = some (t, s, (b : Int), 0, true)) ∨
    (textP most s a = none ∧ ∃ p e : Int, e ≠ 0 ∧ V.scan_Scan_Text (s, (a : Int), 0, true) (most : Int) = some (⟨#[]⟩, s, p, e, true)) := by
  have B : ∀ {r}, F.scan_Scan_Text.B V.scan_Scan_Num V.scan_Scan_take (s, (a : Int), 0, true) (most : Int) = some r → V.scan_Scan_Text (s, (a : Int), 0, true) (most : Int) = some r := V.scan_Scan_Text.of _ _
  unfold F.scan_Scan_Text.B at B
  dsimp only at B
  unfold textP
  rcases Num_both s hs a ha most hm with ⟨n, b, h1, h2⟩ | ⟨h1, e, he, h2⟩
  · obtain ⟨h3, h4⟩ := numP_le ha h1
    rw [h2, Option.bind_some] at B
    rw [h1, Option.bind_some]
    dsimp only at B ⊢
    rcases take_both s hs b h4 n (by omega) with ⟨t, c, g1, g2⟩ | ⟨g1, g2⟩
    · left
      have := fixP_le g1
      exact ⟨t, c, g1, this.1, by omega, B (by rw [g2, Option.bind_some])⟩
    · right
      exact ⟨g1, (b : Int), 3, by omega, B (by rw [g2, Option.bind_some])⟩
  · right
    rw [h2, Option.bind_some] at B
    rw [h1]
    refine ⟨rfl, (a : Int), e, he, B ?_⟩
    dsimp only
    rw [take_err s _ e he, Option.bind_some]
theorem bt_extract (s : ByteArray) (a : Nat) (h : a < s.size) : byteAt (s.extract a (a + 1)) 0 = byteAt s (a : Int) := by
  have hz : (s.extract a (a + 1)).size = 1 := by rw [ByteArray.size_extract]; omega
  have h1 := bt_data (s.extract a (a + 1)) 0 (by omega)
  rw [bt_data s a h]
  rw [show ((0 : Nat) : Int) = 0 from rfl] at h1
  rw [h1]
  simp only [extract_toList]
  rw [List.getElem_take, List.getElem_drop]
  simp
theorem Byte_both (s : ByteArray) (hs : s.size ≤ 140737488351232) (a : Nat) (ha : a ≤ s.size) :
    (a < s.size ∧ V.scan_Scan_Byte (s, (a : Int), 0, true) = some (byteAt s (a : Int), s, ((a + 1 : Nat) : Int), 0, true)) ∨
    (¬ a < s.size ∧ V.scan_Scan_Byte (s, (a : Int), 0, true) = some (0, s, (a : Int), 3, true)) := by
  have B : ∀ {r}, F.scan_Scan_Byte.B V.scan_Scan_take (s, (a : Int), 0, true) = some r → V.scan_Scan_Byte (s, (a : Int), 0, true) = some r := V.scan_Scan_Byte.of _
  unfold F.scan_Scan_Byte.B at B
  dsimp only at B
  rcases take_both s hs a ha 1 (by omega) with ⟨t, b, h1, h2⟩ | ⟨h1, h2⟩
  · left
    obtain ⟨g1, g2, g3⟩ := (fixP_iff 1 s a t b).1 h1
    have h3 := g3.1
    have h4 := g3.2
    rw [g1] at h3 h4
    have hr := bt_range s (a : Int)
    rw [show (1 : Int) = ((1 : Nat) : Int) from rfl, h2, Option.bind_some] at B
    refine ⟨by omega, B ?_⟩
    dsimp only
    have e0 : byteAt t 0 = byteAt s (a : Int) := by rw [← h4]; exact bt_extract s a (by omega)
    rw [strEq_nil, show (t.size == 0) = false by simp [g1], cond_false, guard_dec (by omega), e0, w64_id (by omega) (by omega), g2]
  · right
    have : ¬ a + 1 ≤ s.size := by
      intro hle
      unfold fixP at h1
      rw [if_pos hle] at h1
      cases h1
    rw [show (1 : Int) = ((1 : Nat) : Int) from rfl, h2, Option.bind_some] at B
    refine ⟨by omega, B ?_⟩
    dsimp only
    rw [strEq_self]
    rfl
/-- It leads back from a number's place among 0, -1, 1, -2, 2. -/
def zag (n : Nat) : Int := if n % 2 = 0 then ((n / 2 : Nat) : Int) else -((n / 2 : Nat) : Int) - 1
theorem zag_range (n : Nat) (h : n < 18446744073709551616) : -9223372036854775808 ≤ zag n ∧ zag n ≤ 9223372036854775807 := by unfold zag; split <;> omega
theorem zig_zag (n : Nat) : zig (zag n) = n := by unfold zig zag; split <;> split <;> omega
theorem zag_zig (a : Int) : zag (zig a).toNat = a := by unfold zig zag; split <;> split <;> omega
theorem xor_i0 (n : Nat) (h : n < 9223372036854775808) : w64 ((BitVec.ofInt 64 (n : Int) ^^^ BitVec.ofInt 64 0).toNat : Int) = (n : Int) := by
  have e2 : (BitVec.ofInt 64 (n : Int) ^^^ BitVec.ofInt 64 0).toNat = n := by
    have : BitVec.ofInt 64 0 = 0#64 := rfl
    rw [this, BitVec.xor_zero, BitVec.toNat_ofInt]
    omega
  rw [e2, w64_id (by omega) (by omega)]
theorem w64_mod (x : Int) : w64 x = (x + 9223372036854775808) % 18446744073709551616 - 9223372036854775808 := by
  show IntKind.i64.wrap x = _
  rw [Go.IntKind.wrap_i64]
theorem xor_i1 (n : Nat) (h : n < 9223372036854775808) : w64 ((BitVec.ofInt 64 (n : Int) ^^^ BitVec.ofInt 64 (-1)).toNat : Int) = -(n : Int) - 1 := by
  have : BitVec.ofInt 64 (-1) = BitVec.allOnes 64 := by decide
  rw [this, BitVec.xor_allOnes, BitVec.toNat_not, BitVec.toNat_ofInt, w64_mod]
  omega
theorem Zag_ok (n : Nat) (h : n < 18446744073709551616) : V.varint_Zag (n : Int) = some (zag n) := by
  have e1 : IntKind.wrap .u64 ((BitVec.ofInt 64 (n : Int) &&& BitVec.ofInt 64 1).toNat : Int) = ((n % 2 : Nat) : Int) := by
    have := Go.bits_mask .u64 64 (by decide) wraps_u64 1 (by omega) (n : Int) (by omega) (by omega)
    rw [show ((2 : Int) ^ 1 - 1) = 1 from rfl] at this
    refine this.trans ?_
    omega
  refine V.varint_Zag.of _ ?_
  unfold F.varint_Zag.B zag
  have e2 : Int.fdiv (n : Int) (2 ^ 1) = ((n / 2 : Nat) : Int) := by rw [Int.fdiv_eq_ediv_of_nonneg _ (by decide)]; rfl
  rw [e1, e2, w64_id (x := ((n / 2 : Nat) : Int)) (by omega) (by omega), w64_id (x := ((n % 2 : Nat) : Int)) (by omega) (by omega), w64_id (x := 0 - ((n % 2 : Nat) : Int)) (by omega) (by omega)]
  split
  · rename_i h0
    rw [h0, show (0 - ((0 : Nat) : Int)) = 0 from rfl, xor_i0 _ (by omega)]
  · rename_i h0
    rw [show n % 2 = 1 by omega, show (0 - ((1 : Nat) : Int)) = -1 from rfl, xor_i1 _ (by omega)]
def intP (s : ByteArray) (a : Nat) : Option (Int × Nat) := (uP s a).bind fun x => some (zag x.1, x.2)
theorem intP_iff (s : ByteArray) (a : Nat) (y : Int) (b : Nat) (ha : a ≤ s.size) : intP s a = some (y, b) ↔ (-9223372036854775808 ≤ y ∧ y ≤ 9223372036854775807) ∧ b = a + (numB (zig y).toNat).size ∧ AtB s a (numB (zig y).toNat) := by
  unfold intP
  rw [Option.bind_eq_some_iff]
  constructor
  · rintro ⟨⟨N, c⟩, h1, h2⟩
    obtain ⟨g1, g2, g3⟩ := (uP_iff s a N c ha).1 h1
    simp only [Option.some.injEq, Prod.mk.injEq] at h2
    obtain ⟨rfl, rfl⟩ := h2
    rw [zig_zag, Int.toNat_natCast]
    exact ⟨zag_range N g1, g2, g3⟩
  · rintro ⟨h1, h2, h3⟩
    have hz := zig_bound h1.1 h1.2
    exact ⟨((zig y).toNat, b), (uP_iff s a _ b ha).2 ⟨by omega, h2, h3⟩, by simp [zag_zig]⟩
theorem Int_both (s : ByteArray) (hs : s.size ≤ 140737488351232) (a : Nat) (ha : a ≤ s.size) :
    (∃ y b, intP s a = some (y, b) ∧ b ≤ s.size ∧ V.scan_Scan_Int (s, (a : Int), 0, true) = some (y, s, (b : Int), 0, true)) ∨
    (intP s a = none ∧ ∃ e : Int, e ≠ 0 ∧ V.scan_Scan_Int (s, (a : Int), 0, true) = some (0, s, (a : Int), e, true)) := by
  have hx := extract_size s a s.size
  have G : ∀ {r}, F.varint_GetInt.B V.varint_Get V.varint_Zag (s.extract a s.size) = some r → V.varint_GetInt (s.extract a s.size) = some r := V.varint_GetInt.of _
  unfold F.varint_GetInt.B at G
  rw [Get_ok _ (by omega), Option.bind_some] at G
  have B : ∀ {r}, F.scan_Scan_Int.B V.scan_Scan_Err V.varint_GetInt V.scan_Scan_fail (s, (a : Int), 0, true) = some r → V.scan_Scan_Int (s, (a : Int), 0, true) = some r := V.scan_Scan_Int.of _
  unfold F.scan_Scan_Int.B at B
  dsimp only at B
  rw [Err_ok, Option.bind_some] at B
  dsimp only at B
  rw [guard_of (by simp; omega), nat_cast, nat_cast] at B
  simp only [bne_self_eq_false, cond_false] at B
  unfold intP
  rcases uP_get s a hs with ⟨N, m, hN, hg, hu⟩ | ⟨hg, hu⟩
  · have hb := (uP_le s a N (a + m) ha hu).2
    left
    rw [hg] at G
    refine ⟨zag N, a + m, by rw [hu]; rfl, hb, B ?_⟩
    rw [G (r := (zag N, (m : Int), true)) (by dsimp only; rw [Zag_ok N hN, Option.bind_some]), Option.bind_some]
    dsimp only
    rw [w64_id (by omega) (by omega)]
    rfl
  · right
    rw [hg] at G
    refine ⟨by rw [hu]; rfl, 3, by omega, B ?_⟩
    have hz : V.varint_Zag 0 = some (zag 0) := Zag_ok 0 (by omega)
    rw [G (r := (zag 0, 0, false)) (by dsimp only; rw [hz, Option.bind_some]), Option.bind_some]
    dsimp only
    rw [fail_ok, Option.bind_some]
    rfl
/-- The value whose bytes stand at a place, and the place behind it. -/
def valueP (s : ByteArray) (a : Nat) : Option (TValue × Nat) :=
  if a < s.size then
    if byteAt s (a : Int) = 1 then
      if a + 1 < s.size then (if valueB (1, byteAt s ((a + 1 : Nat) : Int), ⟨#[]⟩) = true then some ((1, byteAt s ((a + 1 : Nat) : Int), ⟨#[]⟩), a + 2) else none) else none
    else if byteAt s (a : Int) = 2 then (intP s (a + 1)).bind fun x => some ((2, x.1, ⟨#[]⟩), x.2)
    else if byteAt s (a : Int) = 3 then (textP 64 s (a + 1)).bind fun x => some ((3, 0, x.1), x.2)
    else none
  else none
theorem Fail_ok (s : ByteArray) (p : Int) : V.scan_Scan_Fail (s, p, 0, true) 3 = some (s, p, 3, true) := by
  refine V.scan_Scan_Fail.of _ _ ?_
  unfold F.scan_Scan_Fail.B
  dsimp only
  rw [fail_ok, Option.bind_some]
  rfl
/-- What value.Read does with what it has read. -/
theorem Read_end (s : ByteArray) (p e : Int) (v : TValue) : ((V.scan_Scan_Err (s, p, e, true)).bind fun t => (bif (t.1 != 0) then (some (((0, 0, (⟨#[]⟩ : ByteArray)) : TValue), t.2.1, t.2.2.1, t.2.2.2.1, t.2.2.2.2)) else ((V.value_Check v).bind fun u => (bif (u != 0) then ((V.scan_Scan_Fail (t.2.1, t.2.2.1, t.2.2.2.1, t.2.2.2.2) 3).bind fun z => (some ((0, 0, (⟨#[]⟩ : ByteArray)), z.1, z.2.1, z.2.2.1, z.2.2.2))) else (some (v, t.2.1, t.2.2.1, t.2.2.2.1, t.2.2.2.2)))))) =
    if e = 0 then (if valueB v = true then some (v, s, p, 0, true) else some ((0, 0, ⟨#[]⟩), s, p, 3, true)) else some ((0, 0, ⟨#[]⟩), s, p, e, true) := by
  rw [Err_ok, Option.bind_some]
  dsimp only
  by_cases h : e = 0
  · subst h
    rw [value_Check_ok, Option.bind_some, Fail_ok]
    cases valueB v <;> simp
  · simp [Bool.cond_eq_ite, h]
theorem Read_both (s : ByteArray) (hs : s.size ≤ 140737488351232) (a : Nat) (ha : a ≤ s.size) :
    (∃ v b, valueP s a = some (v, b) ∧ b ≤ s.size ∧ V.value_Read (s, (a : Int), 0, true) = some (v, s, (b : Int), 0, true)) ∨
    (valueP s a = none ∧ ∃ p e : Int, e ≠ 0 ∧ V.value_Read (s, (a : Int), 0, true) = some ((0, 0, ⟨#[]⟩), s, p, e, true)) := by
  have B : ∀ {r}, F.value_Read.B V.scan_Scan_Byte V.scan_Scan_Err V.value_Check V.scan_Scan_Fail V.scan_Scan_Int V.scan_Scan_Text (s, (a : Int), 0, true) = some r → V.value_Read (s, (a : Int), 0, true) = some r := V.value_Read.of _
  unfold F.value_Read.B at B
  dsimp only at B
  unfold valueP
  rcases Byte_both s hs a ha with ⟨h1, h2⟩ | ⟨h1, h2⟩
  · rw [if_pos h1]
    rw [h2, Option.bind_some] at B
    dsimp only at B
    by_cases c1 : byteAt s (a : Int) = 1
    · rw [if_pos c1]
      rw [c1] at B
      simp only [Int.reduceBEq, cond_true] at B
      rcases Byte_both s hs (a + 1) (by omega) with ⟨g1, g2⟩ | ⟨g1, g2⟩
      · rw [if_pos g1]
        rw [g2, Option.bind_some] at B
        dsimp only at B
        have E := Read_end s ((a + 1 + 1 : Nat) : Int) 0 (1, byteAt s ((a + 1 : Nat) : Int), ⟨#[]⟩)
        rw [if_pos rfl] at E
        by_cases hv : valueB (1, byteAt s ((a + 1 : Nat) : Int), ⟨#[]⟩) = true
        · left; exact ⟨_, a + 2, by rw [if_pos hv], by omega, B (E.trans (by rw [if_pos hv]))⟩
        · right; exact ⟨by rw [if_neg hv], _, 3, by omega, B (E.trans (by rw [if_neg hv]))⟩
      · right
        rw [if_neg g1]
        rw [g2, Option.bind_some] at B
        dsimp only at B
        exact ⟨by first | rfl | trivial, _, 3, by omega, B ((Read_end s _ 3 _).trans (by rw [if_neg (by omega)]))⟩
    · rw [if_neg c1]
      rw [show (byteAt s (a : Int) == 1) = false by simp [c1], cond_false] at B
      by_cases c2 : byteAt s (a : Int) = 2
      · rw [if_pos c2]
        rw [c2] at B
        simp only [Int.reduceBEq, cond_true] at B
        rcases Int_both s hs (a + 1) (by omega) with ⟨y, b, g1, g2, g3⟩ | ⟨g1, e, he, g3⟩
        · left
          rw [g3, Option.bind_some] at B
          dsimp only at B
          rw [g1, Option.bind_some]
          exact ⟨(2, y, ⟨#[]⟩), b, rfl, g2, B ((Read_end s _ 0 _).trans (by rw [if_pos rfl, if_pos (by simp [valueB, ByteArray.size])]))⟩
        · right
          rw [g3, Option.bind_some] at B
          dsimp only at B
          rw [g1]
          exact ⟨by first | rfl | trivial, _, e, he, B ((Read_end s _ e _).trans (by rw [if_neg he]))⟩
      · rw [if_neg c2]
        rw [show (byteAt s (a : Int) == 2) = false by simp [c2], cond_false] at B
        by_cases c3 : byteAt s (a : Int) = 3
        · rw [if_pos c3]
          rw [c3] at B
          simp only [Int.reduceBEq, cond_true] at B
          rcases Text_both s hs (a + 1) (by omega) 64 (by omega) with ⟨t, b, g1, g2, g3, g4⟩ | ⟨g1, p, e, he, g3⟩
          · left
            rw [show (64 : Int) = ((64 : Nat) : Int) from rfl, g4, Option.bind_some] at B
            dsimp only at B
            rw [g1, Option.bind_some]
            exact ⟨(3, 0, t), b, rfl, g2, B ((Read_end s _ 0 _).trans (by rw [if_pos rfl, if_pos (by simp [valueB, g3])]))⟩
          · right
            rw [show (64 : Int) = ((64 : Nat) : Int) from rfl, g3, Option.bind_some] at B
            dsimp only at B
            rw [g1]
            exact ⟨by first | rfl | trivial, _, e, he, B ((Read_end s _ e _).trans (by rw [if_neg he]))⟩
        · rw [if_neg c3]
          rw [show (byteAt s (a : Int) == 3) = false by simp [c3], cond_false] at B
          right
          refine ⟨by first | rfl | trivial, ((a + 1 : Nat) : Int), 3, by omega, B ((Read_end s _ 0 _).trans ?_)⟩
          rw [if_pos rfl, if_neg (by simp [valueB, c1, c2, c3])]
  · right
    rw [if_neg h1]
    rw [h2, Option.bind_some] at B
    dsimp only at B
    simp only [Int.reduceBEq, cond_false] at B
    exact ⟨by first | rfl | trivial, _, 3, by omega, B ((Read_end s _ 3 _).trans (by rw [if_neg (by omega)]))⟩
end Go.Proofs.YthnhkaaodghpgaaDoor.AE
end
section
set_option linter.unusedVariables false
set_option linter.unusedSimpArgs false
set_option maxRecDepth 4000
namespace Go.Proofs.YthnhkaaodghpgaaDoor.AE
open Go

theorem bne_ne {e : Int} (he : e ≠ 0) : (e != 0) = true := by simp [he]
end Go.Proofs.YthnhkaaodghpgaaDoor.AE
end
section
set_option linter.unusedVariables false
set_option linter.unusedSimpArgs false
set_option maxRecDepth 4000
namespace Go.Proofs.YthnhkaaodghpgaaDoor.AE
open Go

theorem at_one (s : ByteArray) (a : Nat) (c : Int) (hc : 0 ≤ c ∧ c < 256) : AtB s a (bytesOf [c]) ↔ a < s.size ∧ byteAt s (a : Int) = c := by
  have hz : (bytesOf [c]).size = 1 := strOfNums_size [c]
  unfold AtB
  rw [hz]
  constructor
  · rintro ⟨h1, h2⟩
    refine ⟨by omega, ?_⟩
    rw [← bt_extract s a (by omega), h2]
    have : byteAt (bytesOf [c]) 0 = c := by
      have := bt_data (bytesOf [c]) 0 (by omega)
      rw [show ((0 : Nat) : Int) = 0 from rfl] at this
      rw [this]
      simp [bytesOf, UInt8.toNat_ofNat']
      omega
    exact this
  · rintro ⟨h1, h2⟩
    refine ⟨by omega, ?_⟩
    have hx := bytesOf_bl (s.extract a (a + 1)) 1 (by rw [ByteArray.size_extract]; omega)
    have hb := bt_extract s a h1
    have e1 : bl (s.extract a (a + 1)) 1 0 = [c] := by
      show [byteAt (s.extract a (a + 1)) ((0 : Nat) : Int)] = [c]
      rw [show ((0 : Nat) : Int) = 0 from rfl, hb, h2]
    rw [e1] at hx
    rw [hx]
    apply ByteArray.ext
    apply Array.ext'
    rw [extract_toList, extract_toList, extract_toList, List.drop_zero, List.take_take]
    congr 1
    omega
theorem valueP_iff (s : ByteArray) (a : Nat) (x y : Int) (t : ByteArray) (b : Nat) (ha : a ≤ s.size) :
    valueP s a = some ((x, y, t), b) ↔ valueB (x, y, t) = true ∧ (-9223372036854775808 ≤ y ∧ y ≤ 9223372036854775807) ∧ b = a + (valB (x, y, t)).size ∧ AtB s a (valB (x, y, t)) := by
  have app : bytesOf [1, y] = bytesOf [1] ++ bytesOf [y] := by rw [← strOfNums_append]; rfl
  constructor
  · intro h
    unfold valueP at h
    split at h
    · rename_i h1
      split at h
      · rename_i c1
        split at h
        · rename_i h2
          split at h
          · rename_i hv
            simp only [Option.some.injEq, Prod.mk.injEq] at h
            obtain ⟨⟨rfl, rfl, rfl⟩, rfl⟩ := h
            have hr := bt_range s ((a + 1 : Nat) : Int)
            refine ⟨hv, by omega, ?_⟩
            have hB : valB (1, (byteAt s ((a + 1 : Nat) : Int)), ⟨#[]⟩) = bytesOf [1] ++ bytesOf [byteAt s ((a + 1 : Nat) : Int)] := by
              unfold valB; rw [if_pos hv, if_pos rfl, app]
            rw [hB, at_append, ByteArray.size_append, strOfNums_size, strOfNums_size]
            exact ⟨rfl, (at_one s a 1 (by omega)).2 ⟨h1, c1⟩, (at_one s (a + 1) _ (by omega)).2 ⟨h2, rfl⟩⟩
          · cases h
        · cases h
      · rename_i c1
        split at h
        · rename_i c2
          obtain ⟨⟨z, c⟩, g1, g2⟩ := Option.bind_eq_some_iff.1 h
          simp only [Option.some.injEq, Prod.mk.injEq] at g2
          obtain ⟨⟨rfl, rfl, rfl⟩, rfl⟩ := g2
          obtain ⟨k1, k2, k3⟩ := (intP_iff s (a + 1) z c (by omega)).1 g1
          have hv : valueB (2, z, ⟨#[]⟩) = true := by simp [valueB, ByteArray.size]
          have hB : valB (2, z, ⟨#[]⟩) = bytesOf [2] ++ numB (zig z).toNat := by unfold valB; rw [if_pos hv, if_neg (by omega), if_pos rfl]
          refine ⟨hv, k1, ?_⟩
          rw [hB, at_append, ByteArray.size_append, strOfNums_size]
          exact ⟨by simp; omega, (at_one s a 2 (by omega)).2 ⟨h1, c2⟩, k3⟩
        · rename_i c2
          split at h
          · rename_i c3
            obtain ⟨⟨z, c⟩, g1, g2⟩ := Option.bind_eq_some_iff.1 h
            simp only [Option.some.injEq, Prod.mk.injEq] at g2
            obtain ⟨⟨rfl, rfl, rfl⟩, rfl⟩ := g2
            obtain ⟨k1, k2, k3⟩ := (textP_iff 64 (by omega) s (a + 1) z c (by omega)).1 g1
            have hv : valueB (3, 0, z) = true := by simp [valueB, k1]
            have hB : valB (3, 0, z) = bytesOf [3] ++ textB z := by unfold valB; rw [if_pos hv, if_neg (by omega), if_neg (by omega)]
            refine ⟨hv, by omega, ?_⟩
            rw [hB, at_append, ByteArray.size_append, strOfNums_size]
            exact ⟨by simp; omega, (at_one s a 3 (by omega)).2 ⟨h1, c3⟩, k3⟩
          · cases h
    · cases h
  · rintro ⟨hv, hy, rfl, hA⟩
    unfold valB at hA ⊢
    rw [if_pos hv] at hA ⊢
    have hv' := hv
    unfold valueB at hv'
    by_cases c1 : x = 1
    · subst c1
      simp at hv'
      have ht : t = ⟨#[]⟩ := hv'.2.trans rfl
      subst ht
      rw [if_pos rfl, app] at hA
      rw [if_pos rfl]
      obtain ⟨h1, h2⟩ := (at_append _ _ _ _).1 hA
      rw [strOfNums_size] at h2
      obtain ⟨g1, g2⟩ := (at_one s a 1 (by omega)).1 h1
      obtain ⟨k1, k2⟩ := (at_one s (a + 1) y (by omega)).1 h2
      unfold valueP
      rw [if_pos g1, if_pos g2, if_pos k1, k2, if_pos hv, strOfNums_size]
      rfl
    · by_cases c2 : x = 2
      · subst c2
        simp at hv'
        have ht : t = ⟨#[]⟩ := hv'.trans rfl
        subst ht
        rw [if_neg (by omega), if_pos rfl] at hA
        rw [if_neg (by omega), if_pos rfl]
        obtain ⟨h1, h2⟩ := (at_append _ _ _ _).1 hA
        rw [strOfNums_size] at h2
        obtain ⟨g1, g2⟩ := (at_one s a 2 (by omega)).1 h1
        have := (intP_iff s (a + 1) y (a + 1 + (numB (zig y).toNat).size) (by omega)).2 ⟨hy, rfl, h2⟩
        unfold valueP
        rw [if_pos g1, if_neg (by omega), if_pos g2, this, Option.bind_some, ByteArray.size_append, strOfNums_size]
        simp only [List.length_cons, List.length_nil]
        congr 2
        omega
      · have c3 : x = 3 := by simp [c1, c2] at hv'; exact hv'.1.1
        subst c3
        have hy0 : y = 0 := by simp [c1, c2] at hv'; exact hv'.1
        subst hy0
        have h64 : t.size ≤ 64 := by simp [c1, c2] at hv'; exact hv'
        rw [if_neg (by omega), if_neg (by omega)] at hA
        rw [if_neg (by omega), if_neg (by omega)]
        obtain ⟨h1, h2⟩ := (at_append _ _ _ _).1 hA
        rw [strOfNums_size] at h2
        obtain ⟨g1, g2⟩ := (at_one s a 3 (by omega)).1 h1
        have := (textP_iff 64 (by omega) s (a + 1) t (a + 1 + (textB t).size) (by omega)).2 ⟨h64, rfl, h2⟩
        unfold valueP
        rw [if_pos g1, if_neg (by omega), if_neg (by omega), if_pos g2, this, Option.bind_some, ByteArray.size_append, strOfNums_size]
        simp only [List.length_cons, List.length_nil]
        congr 2
        omega
/-! rows of texts, of properties -/
end Go.Proofs.YthnhkaaodghpgaaDoor.AE
end
section
set_option linter.unusedVariables false
set_option linter.unusedSimpArgs false
namespace Go.Proofs.YthnhkaaodghpgaaDoor.AE
open Go

abbrev hexD : ByteArray := ⟨#[48, 49, 50, 51, 52, 53, 54, 55, 56, 57, 97, 98, 99, 100, 101, 102]⟩
def hexL (s : ByteArray) : Nat → Nat → List Int
  | 0, _ => []
  | d + 1, i => byteAt hexD (byteAt s (i : Int) / 16) :: byteAt hexD (byteAt s (i : Int) % 16) :: hexL s d (i + 1)
def hexB (s : ByteArray) : ByteArray := bytesOf (hexL s s.size 0)
theorem hexL_len (s : ByteArray) : ∀ d i, (hexL s d i).length = 2 * d
  | 0, i => rfl
  | d + 1, i => by simp only [hexL, List.length_cons, hexL_len s d (i + 1)]; omega
theorem hexB_size (s : ByteArray) : (hexB s).size = 2 * s.size := by unfold hexB; rw [strOfNums_size, hexL_len]

theorem byte_fin {p : Int → Prop} (h : ∀ c : Fin 256, p (c.val : Int)) {c : Int} (h0 : 0 ≤ c) (h1 : c < 256) : p c := by
  obtain ⟨n, rfl⟩ := Int.eq_ofNat_of_zero_le h0
  exact h ⟨n, by omega⟩
theorem and15 {c : Int} (h0 : 0 ≤ c) (h1 : c < 256) : IntKind.wrap .u8 ((BitVec.ofInt 8 c &&& BitVec.ofInt 8 15).toNat : Int) = c % 16 :=
  byte_fin (p := fun c => IntKind.wrap .u8 ((BitVec.ofInt 8 c &&& BitVec.ofInt 8 15).toNat : Int) = c % 16) (by decide +kernel) h0 h1
theorem fdiv16 {c : Int} (h0 : 0 ≤ c) (h1 : c < 256) : Int.fdiv c (2 ^ 4) = c / 16 :=
  byte_fin (p := fun c => Int.fdiv c (2 ^ 4) = c / 16) (by decide +kernel) h0 h1
theorem hexD_size : ((hexD.size : Nat) : Int) = 16 := rfl
theorem sha_Hex_l (s : ByteArray) (hs : s.size ≤ 1000000) : ∀ (d i : Nat) (x : List Int), i + d = s.size → x.length ≤ 2 * i → V.sha_Hex.l11010 s (i : Int) x = some (bytesOf (x ++ hexL s d i))
  | 0, i, x, h, hx => by
    apply V.sha_Hex.l11010.of; unfold F.sha_Hex.l11010.B
    rw [if_out (by omega)]
    simp [hexL]
  | d + 1, i, x, h, hx => by
    obtain ⟨b0, b1⟩ := bt_range s (i : Int)
    apply V.sha_Hex.l11010.of; unfold F.sha_Hex.l11010.B
    rw [if_in (by omega), guard_in (by omega), fdiv16 b0 b1, and15 b0 b1, hexD_size]
    rw [guard_of (by simp only [Bool.and_eq_true, decide_eq_true_eq]; omega), guard_in (by omega), guard_of (by simp only [Bool.and_eq_true, decide_eq_true_eq]; omega)]
    rw [guard_dec (by simp only [List.length_cons, List.length_nil, nmax]; omega), w64_up (n := s.size) (by omega) (by omega)]
    rw [sha_Hex_l s hs d (i + 1) _ (by omega) (by simp only [List.length_append, List.length_cons, List.length_nil]; omega)]
    simp only [hexL, List.append_assoc, List.cons_append, List.nil_append]
theorem sha_Hex_ok (s : ByteArray) (hs : s.size ≤ 1000000) : V.sha_Hex s = some (hexB s) := by
  apply V.sha_Hex.of; unfold F.sha_Hex.B
  rw [w64_id (by omega) (by omega), guard_of (by simp only [Bool.and_eq_true, decide_eq_true_eq]; omega)]
  have := sha_Hex_l s hs s.size 0 [] (by omega) (by simp)
  exact this

/-! ### Decimal digits -/
def dB (n : Nat) : ByteArray := ⟨(Lib.decDigits n).toArray⟩
def tensB (n : Nat) : ByteArray := if n = 0 then ⟨#[]⟩ else dB n
def oneB (n : Nat) : ByteArray := ⟨#[UInt8.ofNat (48 + n)]⟩
theorem data_app (a b : List UInt8) : (⟨a.toArray⟩ : ByteArray) ++ ⟨b.toArray⟩ = ⟨(a ++ b).toArray⟩ := by apply ByteArray.ext; simp
theorem tens_one (n : Nat) : tensB (n / 10) ++ oneB (n % 10) = dB n := by
  unfold tensB dB oneB
  by_cases h : n < 10
  · rw [if_pos (by omega), Lib.decDigits_one h, Nat.mod_eq_of_lt h]
    exact nil_app _
  · rw [if_neg (by omega)]
    conv => rhs; rw [Lib.decDigits, dif_neg h]
    exact data_app _ _
theorem oneB_size (n : Nat) : (oneB n).size = 1 := rfl
theorem dB_size : ∀ (k n : Nat), n < 10 ^ (k + 1) → (dB n).size ≤ k + 1
  | 0, n, h => by
    unfold dB; rw [Lib.decDigits_one (by simpa using h)]; simp [ByteArray.size]
  | k + 1, n, h => by
    rw [← tens_one n, ByteArray.size_append, oneB_size]
    unfold tensB
    split
    · simp [ByteArray.size]
    · have := dB_size k (n / 10) (by rw [Nat.pow_succ] at h; omega)
      omega
theorem itoaS_neg {n : Int} (h : n < 0) : itoaS n = (⟨#[45]⟩ : ByteArray) ++ dB n.natAbs := by
  unfold itoaS Lib.itoa dB
  rw [if_pos h]
  exact (data_app [45] _).symm
theorem itoaS_pos {n : Nat} : itoaS (n : Int) = dB n := by
  unfold itoaS Lib.itoa dB
  rw [if_neg (by omega)]; rfl
theorem itoaS_size {a : Int} (h0 : -9223372036854775808 ≤ a) (h1 : a ≤ 9223372036854775807) : (itoaS a).size ≤ 21 := by
  by_cases hn : a < 0
  · rw [itoaS_neg hn, ByteArray.size_append]
    have := dB_size 19 a.natAbs (by omega)
    show 1 + _ ≤ _; omega
  · obtain ⟨n, rfl⟩ := Int.eq_ofNat_of_zero_le (show 0 ≤ a by omega)
    rw [itoaS_pos]
    have := dB_size 19 n (by omega)
    omega

/-! ### Plain texts -/
def badI (c : Int) : Bool := !(((((decide (c ≥ 97) && decide (c ≤ 122)) || (decide (c ≥ 65) && decide (c ≤ 90))) || (decide (c ≥ 48) && decide (c ≤ 57))) || c == 45) || c == 46 || c == 95)
def okF (s : ByteArray) : Nat → Nat → Bool
  | 0, _ => true
  | d + 1, i => bif badI (byteAt s (i : Int)) then false else okF s d (i + 1)
def plainB (s : ByteArray) : Bool := okF s s.size 0
theorem decode_low {s : ByteArray} {i : Nat} (h : (s.get! i).toNat < 128) : Utf8.decode s i = ((s.get! i).toNat, 1) := by
  unfold Utf8.decode
  simp only [Nat.add_zero]
  rw [if_pos h]
theorem decode_high {s : ByteArray} {i : Nat} (h : 128 ≤ (s.get! i).toNat) : 128 ≤ (Utf8.decode s i).1 := by
  unfold Utf8.decode
  simp only [Nat.add_zero, Utf8.runeError]
  rw [if_neg (by omega)]
  repeat' split
  all_goals first | omega | (rename_i h1; simp only [Bool.and_eq_true, decide_eq_true_eq, ge_iff_le] at h1; omega) | (simp only [ge_iff_le] at *; omega)
theorem bt_get {s : ByteArray} {i : Nat} (h : i < s.size) : byteAt s (i : Int) = ((s.get! i).toNat : Int) := by
  rw [bt_data s i h]
  congr 1
  cases s with
  | mk a => 
    have h' : i < a.size := h
    simp [ByteArray.get!, getElem!_pos, h']
theorem badR_of (n : Nat) : badR n = badI (n : Int) := by
  unfold badR badI
  rw [Bool.eq_iff_iff]
  simp
  omega
theorem badR_high {n : Nat} (h : 128 ≤ n) : badR n = true := by
  unfold badR; simp; omega
theorem idx_plain (s : ByteArray) : ∀ (f d i : Nat), i + d = s.size → d ≤ f → decide (0 ≤ Lib.idxFuncFrom badR true s f i) = !(okF s d i)
  | f, 0, i, h, hf => by
    rw [Lib.idxFuncFrom_end _ _ _ _ _ (by omega)]; rfl
  | 0, d + 1, i, h, hf => by omega
  | f + 1, d + 1, i, h, hf => by
    have hi : i < s.size := by omega
    unfold Lib.idxFuncFrom
    rw [if_pos hi]
    simp only [okF]
    rw [bt_get hi, ← badR_of]
    by_cases hl : (s.get! i).toNat < 128
    · rw [decode_low hl]
      cases hb : badR (s.get! i).toNat
      · rw [if_neg (by simp [hb])]
        exact idx_plain s f d (i + 1) (by omega) (by omega)
      · simp
    · have h1 : badR (s.get! i).toNat = true := badR_high (by omega)
      have h2 : badR (Utf8.decode s i).1 = true := badR_high (decode_high (by omega))
      rw [h1, h2]; simp
theorem hasR_plain (s : ByteArray) : hasR badR s = !(plainB s) := by
  unfold hasR Lib.idxFunc plainB
  exact idx_plain s s.size s.size 0 (by omega) (Nat.le_refl _)
theorem plain_ok (s : ByteArray) : V.value_plain s = some (plainB s) := by
  apply V.value_plain.of; unfold F.value_plain.B
  rw [V.strings_ContainsFunc_by_value_plain_1.of s (r := hasR badR s) rfl, Option.bind_some, hasR_plain, Bool.not_not]

/-! ### A value's word -/
def showB (v : TValue) : ByteArray :=
  if valueB v then (if v.1 = 1 then (if v.2.1 = 1 then ⟨#[116, 114, 117, 101]⟩ else ⟨#[102, 97, 108, 115, 101]⟩) else if v.1 = 2 then itoaS v.2.1 else if plainB v.2.2 then (⟨#[39]⟩ : ByteArray) ++ v.2.2 else (⟨#[35]⟩ : ByteArray) ++ hexB v.2.2) else ⟨#[]⟩
theorem value_kind {v : TValue} (h : valueB v = true) : (v.1 = 1 ∨ v.1 = 2 ∨ v.1 = 3) ∧ v.2.2.size ≤ 64 := by
  unfold valueB at h
  simp only [Bool.or_eq_true, Bool.and_eq_true, beq_iff_eq, decide_eq_true_eq] at h
  omega
theorem one_app (c : UInt8) (s : ByteArray) : ((⟨#[c]⟩ : ByteArray) ++ s).size = 1 + s.size := by rw [ByteArray.size_append]; rfl
theorem Itoa_ok {a : Int} (h0 : -9223372036854775808 ≤ a) (h1 : a ≤ 9223372036854775807) : V.strconv_Itoa a = some (itoaS a) := by
  apply V.strconv_Itoa.of
  show itoaB a = _
  unfold itoaB
  exact guard_of (by simp [h0, h1])
theorem value_Show_ok (v : TValue) (hb : -9223372036854775808 ≤ v.2.1 ∧ v.2.1 ≤ 9223372036854775807) : V.value_Show v = some (showB v) := by
  obtain ⟨k, n, t⟩ := v
  apply V.value_Show.of; unfold F.value_Show.B
  rw [value_Check_ok, Option.bind_some]
  unfold showB
  cases hv : valueB (k, n, t) with
  | false => simp
  | true =>
    obtain ⟨hk, ht⟩ := value_kind hv
    simp only at hk ht hb
    simp only [if_true]
    rw [show ((0 : Int) != 0) = false from rfl, cond_false, Itoa_ok hb.1 hb.2, plain_ok t, sha_Hex_ok t (by omega)]
    simp only [Option.bind_some]
    rw [guard_dec (p := (⟨#[39]⟩ : ByteArray).size + t.size ≤ i64max) (by show 1 + _ ≤ _; simp only [i64max]; omega), guard_dec (p := (⟨#[35]⟩ : ByteArray).size + (hexB t).size ≤ i64max) (by rw [hexB_size]; show 1 + _ ≤ _; simp only [i64max]; omega)]
    rcases hk with rfl | rfl | rfl
    · by_cases h1 : n = 1
      · subst h1; simp
      · rw [show (n == 1) = false from beq_eq_false_iff_ne.2 h1, if_neg (show ¬ ((1, n, t) : TValue).2.1 = 1 from h1)]; rfl
    · simp
    · cases plainB t <;> simp
theorem awake06_ok : V.pleachlaw06_awake = some true := by
  apply V.pleachlaw06_awake.of; unfold F.pleachlaw06_awake.B
  rw [value_Put_ok (2, -1, ⟨#[]⟩) (by decide), Option.bind_some, value_Show_ok (3, 0, ⟨#[97, 32, 98]⟩) (by decide), Option.bind_some]
  decide +kernel
theorem int_wf {n : Int} (h : (Lit.int .i64 n).wf = true) : -9223372036854775808 ≤ n ∧ n ≤ 9223372036854775807 := by
  have e1 : IntKind.i64.min = -9223372036854775808 := rfl
  have e2 : IntKind.i64.max = 9223372036854775807 := rfl
  simpa only [Lit.wf, e1, e2, Bool.and_eq_true, decide_eq_true_eq] using h
end Go.Proofs.YthnhkaaodghpgaaDoor.AE
end
section
set_option linter.unusedVariables false
set_option linter.unusedSimpArgs false
namespace Go.Proofs.YthnhkaaodghpgaaDoor.AE
open Go

def numE (s : ByteArray) (a : Nat) : Int := bif (getB (s.extract a s.size)).2.2 then 5 else 3
theorem numE_ne (s : ByteArray) (a : Nat) : numE s a ≠ 0 := by unfold numE; cases (getB (s.extract a s.size)).2.2 <;> decide
theorem Num_fail (s : ByteArray) (hs : s.size ≤ 140737488351232) (a : Nat) (ha : a ≤ s.size) (most : Nat) (hm : most ≤ 100000) (h : numP most s a = none) :
    V.scan_Scan_Num (s, (a : Int), 0, true) (most : Int) = some (0, s, (a : Int), numE s a, true) := by
  have hx := extract_size s a s.size
  have B : ∀ {r}, F.scan_Scan_Num.B V.scan_Scan_Err V.varint_Get V.scan_Scan_fail (s, (a : Int), 0, true) (most : Int) = some r → V.scan_Scan_Num (s, (a : Int), 0, true) (most : Int) = some r := V.scan_Scan_Num.of _ _
  unfold F.scan_Scan_Num.B at B
  dsimp only at B
  rw [Err_ok, Option.bind_some] at B
  dsimp only at B
  rw [guard_of (by simp; omega), nat_cast, nat_cast, Get_ok _ (by omega), Option.bind_some] at B
  simp only [bne_self_eq_false, cond_false] at B
  unfold numP at h
  rcases uP_get s a hs with ⟨N, m, hN, hg, hu⟩ | ⟨hg, hu⟩
  · rw [hu, Option.bind_some] at h
    have e : numE s a = 5 := by unfold numE; rw [hg]; rfl
    rw [hg] at B
    dsimp only at B h
    simp only [Bool.not_true, cond_false] at B
    rw [if_no (show ¬ (most : Int) < 0 by omega), u64_id (x := (most : Int)) (by omega) (by omega)] at B
    have hle : ¬ N ≤ most := by intro hle; rw [if_pos hle] at h; cases h
    rw [e]
    exact B (by rw [if_yes (by omega), fail_ok, Option.bind_some]; rfl)
  · have e : numE s a = 3 := by unfold numE; rw [hg]; rfl
    rw [hg] at B
    dsimp only at B
    rw [e]
    exact B (by rw [fail_ok, Option.bind_some]; rfl)
def textE (most : Nat) (s : ByteArray) (a : Nat) : Int × Int := match numP most s a with
  | some x => ((x.2 : Int), 3)
  | none => ((a : Int), numE s a)
theorem textE_ne (most : Nat) (s : ByteArray) (a : Nat) : (textE most s a).2 ≠ 0 := by
  unfold textE; split
  · exact (by decide : (3 : Int) ≠ 0)
  · exact numE_ne s a
theorem Text_fail (s : ByteArray) (hs : s.size ≤ 140737488351232) (a : Nat) (ha : a ≤ s.size) (most : Nat) (hm : most ≤ 100000) (h : textP most s a = none) :
    V.scan_Scan_Text (s, (a : Int), 0, true) (most : Int) = some (⟨#[]⟩, s, (textE most s a).1, (textE most s a).2, true) := by
  have B : ∀ {r}, F.scan_Scan_Text.B V.scan_Scan_Num V.scan_Scan_take (s, (a : Int), 0, true) (most : Int) = some r → V.scan_Scan_Text (s, (a : Int), 0, true) (most : Int) = some r := V.scan_Scan_Text.of _ _
  unfold F.scan_Scan_Text.B at B
  dsimp only at B
  unfold textP at h
  unfold textE
  rcases Num_both s hs a ha most hm with ⟨n, b, h1, h2⟩ | ⟨h1, _⟩
  · obtain ⟨h3, h4⟩ := numP_le ha h1
    rw [h2, Option.bind_some] at B
    rw [h1, Option.bind_some] at h
    rw [h1]
    dsimp only at B h ⊢
    rcases take_both s hs b h4 n (by omega) with ⟨t, c, g1, g2⟩ | ⟨g1, g2⟩
    · rw [g1] at h; cases h
    · exact B (by rw [g2, Option.bind_some])
  · rw [Num_fail s hs a ha most hm h1, Option.bind_some] at B
    rw [h1]
    refine B ?_
    dsimp only
    rw [take_err s _ _ (numE_ne s a), Option.bind_some]
theorem Int_fail (s : ByteArray) (hs : s.size ≤ 140737488351232) (a : Nat) (ha : a ≤ s.size) (h : intP s a = none) : V.scan_Scan_Int (s, (a : Int), 0, true) = some (0, s, (a : Int), 3, true) := by
  have hx := extract_size s a s.size
  have G : ∀ {r}, F.varint_GetInt.B V.varint_Get V.varint_Zag (s.extract a s.size) = some r → V.varint_GetInt (s.extract a s.size) = some r := V.varint_GetInt.of _
  unfold F.varint_GetInt.B at G
  rw [Get_ok _ (by omega), Option.bind_some] at G
  have B : ∀ {r}, F.scan_Scan_Int.B V.scan_Scan_Err V.varint_GetInt V.scan_Scan_fail (s, (a : Int), 0, true) = some r → V.scan_Scan_Int (s, (a : Int), 0, true) = some r := V.scan_Scan_Int.of _
  unfold F.scan_Scan_Int.B at B
  dsimp only at B
  rw [Err_ok, Option.bind_some] at B
  dsimp only at B
  rw [guard_of (by simp; omega), nat_cast, nat_cast] at B
  simp only [bne_self_eq_false, cond_false] at B
  unfold intP at h
  rcases uP_get s a hs with ⟨N, m, hN, hg, hu⟩ | ⟨hg, hu⟩
  · rw [hu] at h; cases h
  · rw [hg] at G
    refine B ?_
    have hz : V.varint_Zag 0 = some (zag 0) := Zag_ok 0 (by omega)
    rw [G (r := (zag 0, 0, false)) (by dsimp only; rw [hz, Option.bind_some]), Option.bind_some]
    dsimp only
    rw [fail_ok, Option.bind_some]
    rfl
def valueE (s : ByteArray) (a : Nat) : Int × Int :=
  if a < s.size then
    if byteAt s (a : Int) = 1 then (if a + 1 < s.size then (((a + 2 : Nat) : Int), 3) else (((a + 1 : Nat) : Int), 3))
    else if byteAt s (a : Int) = 3 then textE 64 s (a + 1)
    else (((a + 1 : Nat) : Int), 3)
  else ((a : Int), 3)
theorem valueE_ne (s : ByteArray) (a : Nat) : (valueE s a).2 ≠ 0 := by
  unfold valueE
  repeat' split
  all_goals first | exact textE_ne _ _ _ | exact (by decide : (3 : Int) ≠ 0)
theorem Read_fail (s : ByteArray) (hs : s.size ≤ 140737488351232) (a : Nat) (ha : a ≤ s.size) (h : valueP s a = none) :
    V.value_Read (s, (a : Int), 0, true) = some ((0, 0, ⟨#[]⟩), s, (valueE s a).1, (valueE s a).2, true) := by
  have B : ∀ {r}, F.value_Read.B V.scan_Scan_Byte V.scan_Scan_Err V.value_Check V.scan_Scan_Fail V.scan_Scan_Int V.scan_Scan_Text (s, (a : Int), 0, true) = some r → V.value_Read (s, (a : Int), 0, true) = some r := V.value_Read.of _
  unfold F.value_Read.B at B
  dsimp only at B
  unfold valueP at h
  unfold valueE
  rcases Byte_both s hs a ha with ⟨h1, h2⟩ | ⟨h1, h2⟩
  · rw [if_pos h1] at h ⊢
    rw [h2, Option.bind_some] at B
    dsimp only at B
    by_cases c1 : byteAt s (a : Int) = 1
    · rw [if_pos c1] at h ⊢
      rw [c1] at B
      simp only [Int.reduceBEq, cond_true] at B
      rcases Byte_both s hs (a + 1) (by omega) with ⟨g1, g2⟩ | ⟨g1, g2⟩
      · rw [if_pos g1] at h ⊢
        rw [g2, Option.bind_some] at B
        dsimp only at B
        have E := Read_end s ((a + 1 + 1 : Nat) : Int) 0 (1, byteAt s ((a + 1 : Nat) : Int), ⟨#[]⟩)
        rw [if_pos rfl] at E
        by_cases hv : valueB (1, byteAt s ((a + 1 : Nat) : Int), ⟨#[]⟩) = true
        · rw [if_pos hv] at h; cases h
        · exact B (E.trans (by rw [if_neg hv]))
      · rw [if_neg g1]
        rw [g2, Option.bind_some] at B
        dsimp only at B
        exact B ((Read_end s _ 3 _).trans (by rw [if_neg (by omega)]))
    · rw [if_neg c1] at h ⊢
      rw [show (byteAt s (a : Int) == 1) = false by simp [c1], cond_false] at B
      by_cases c2 : byteAt s (a : Int) = 2
      · rw [if_pos c2] at h
        rw [if_neg (by omega)]
        rw [c2] at B
        simp only [Int.reduceBEq, cond_true] at B
        have g1 : intP s (a + 1) = none := by cases hh : intP s (a + 1) with | none => rfl | some x => rw [hh] at h; cases h
        rw [Int_fail s hs (a + 1) (by omega) g1, Option.bind_some] at B
        dsimp only at B
        exact B ((Read_end s _ 3 _).trans (by rw [if_neg (by omega)]))
      · rw [if_neg c2] at h
        rw [show (byteAt s (a : Int) == 2) = false by simp [c2], cond_false] at B
        by_cases c3 : byteAt s (a : Int) = 3
        · rw [if_pos c3] at h ⊢
          rw [c3] at B
          simp only [Int.reduceBEq, cond_true] at B
          have g1 : textP 64 s (a + 1) = none := by cases hh : textP 64 s (a + 1) with | none => rfl | some x => rw [hh] at h; cases h
          rw [show (64 : Int) = ((64 : Nat) : Int) from rfl, Text_fail s hs (a + 1) (by omega) 64 (by omega) g1, Option.bind_some] at B
          dsimp only at B
          exact B ((Read_end s _ _ _).trans (by rw [if_neg (textE_ne _ _ _)]))
        · rw [if_neg c3]
          rw [show (byteAt s (a : Int) == 3) = false by simp [c3], cond_false] at B
          refine B ((Read_end s _ 0 _).trans ?_)
          rw [if_pos rfl, if_neg (by simp [valueB, c1, c2, c3])]
  · rw [if_neg h1]
    rw [h2, Option.bind_some] at B
    dsimp only at B
    simp only [Int.reduceBEq, cond_false] at B
    exact B ((Read_end s _ 3 _).trans (by rw [if_neg (by omega)]))
/-! ### A value of bytes -/
theorem End_zero (s : ByteArray) (b : Nat) : V.scan_Scan_End (s, (b : Int), 0, true) = some (if b < s.size then (3, s, (b : Int), 3, true) else (0, s, (b : Int), 0, true)) := by
  apply V.scan_Scan_End.of; unfold F.scan_Scan_End.B
  dsimp only
  rw [Err_ok, Option.bind_some]
  dsimp only
  rw [show ((0 : Int) == 0) = true from rfl, cond_true, meet_self]
  by_cases h : b < s.size
  · rw [if_yes (by omega), if_pos h, Err_ok, Option.bind_some]
  · rw [if_no (by omega), if_neg h, Err_ok, Option.bind_some]
theorem End_err (s : ByteArray) (p e : Int) (he : e ≠ 0) : V.scan_Scan_End (s, p, e, true) = some (e, s, p, e, true) := by
  apply V.scan_Scan_End.of; unfold F.scan_Scan_End.B
  dsimp only
  rw [Err_ok, Option.bind_some]
  dsimp only
  rw [show (e == 0) = false from beq_eq_false_iff_ne.2 he, cond_false, Err_ok, Option.bind_some]
/-- The value of bytes, and the error. -/
def takeV (s : ByteArray) : TValue × Int := match valueP s 0 with
  | some (v, b) => if b < s.size then ((0, 0, ⟨#[]⟩), 3) else (v, 0)
  | none => ((0, 0, ⟨#[]⟩), (valueE s 0).2)
theorem New_ok (s : ByteArray) : V.scan_New s = some (s, 0, 0, true) := V.scan_New.of s rfl
theorem Take_ok (s : ByteArray) (hs : s.size ≤ 140737488351232) : V.value_Take s = some (takeV s) := by
  apply V.value_Take.of; unfold F.value_Take.B
  rw [New_ok, Option.bind_some]
  dsimp only
  unfold takeV
  rcases Read_both s hs 0 (by omega) with ⟨v, b, h1, h2, h3⟩ | ⟨h1, _⟩
  · rw [h1]
    rw [show ((0 : Nat) : Int) = 0 from rfl] at h3
    rw [h3, Option.bind_some]
    dsimp only
    rw [End_zero, Option.bind_some]
    by_cases hb : b < s.size
    · simp [hb]
    · simp [hb]
  · rw [h1]
    have := Read_fail s hs 0 (by omega) h1
    rw [show ((0 : Nat) : Int) = 0 from rfl] at this
    rw [this, Option.bind_some]
    dsimp only
    rw [End_err _ _ _ (valueE_ne s 0), Option.bind_some]
    dsimp only
    rw [bne_ne (valueE_ne s 0), cond_true]
end Go.Proofs.YthnhkaaodghpgaaDoor.AE
end
section
set_option linter.unusedVariables false
set_option linter.unusedSimpArgs false
namespace Go.Proofs.YthnhkaaodghpgaaDoor.AE
open Go

def hv (c : Int) : Int := if 48 ≤ c ∧ c ≤ 57 then c - 48 else if 97 ≤ c ∧ c ≤ 102 then c - 87 else 16
theorem hv_range {c : Int} (h0 : 0 ≤ c) (h1 : c < 256) : 0 ≤ hv c ∧ hv c ≤ 16 := by unfold hv; split <;> (try split) <;> omega
theorem digit_ok {c : Int} (h0 : 0 ≤ c) (h1 : c < 256) : V.sha_digit c = some (hv c) := by
  apply V.sha_digit.of
  exact byte_fin (p := fun c => F.sha_digit.B c = some (hv c)) (by decide +kernel) h0 h1
theorem pair_fin {p : Int → Int → Prop} (h : ∀ a b : Fin 16, p (a.val : Int) (b.val : Int)) {a b : Int} (h0 : 0 ≤ a) (h1 : a ≤ 15) (g0 : 0 ≤ b) (g1 : b ≤ 15) : p a b := by
  obtain ⟨n, rfl⟩ := Int.eq_ofNat_of_zero_le h0
  obtain ⟨m, rfl⟩ := Int.eq_ofNat_of_zero_le g0
  exact h ⟨n, by omega⟩ ⟨m, by omega⟩
theorem pairP {a b : Int} (h0 : 0 ≤ a) (h1 : a ≤ 15) (g0 : 0 ≤ b) (g1 : b ≤ 15) : IntKind.wrap .u8 ((BitVec.ofInt 8 (IntKind.wrap .u8 (a * 2 ^ 4)) ||| BitVec.ofInt 8 b).toNat : Int) = 16 * a + b :=
  pair_fin (p := fun a b => IntKind.wrap .u8 ((BitVec.ofInt 8 (IntKind.wrap .u8 (a * 2 ^ 4)) ||| BitVec.ofInt 8 b).toNat : Int) = 16 * a + b) (by decide +kernel) h0 h1 g0 g1
def uhx (s : ByteArray) : Nat → Nat → Option (List Int)
  | 0, _ => some []
  | d + 1, i => if hv (byteAt s (i : Int)) ≤ 15 ∧ hv (byteAt s ((i + 1 : Nat) : Int)) ≤ 15 then (uhx s d (i + 2)).map fun l => (16 * hv (byteAt s (i : Int)) + hv (byteAt s ((i + 1 : Nat) : Int))) :: l else none
theorem w64_two {i n : Nat} (h : i + 1 < n) (hn : n ≤ 140737488351232) : w64 ((i : Int) + 2) = ((i + 2 : Nat) : Int) := by rw [w64_id (by omega) (by omega)]; omega
theorem sha_Unhex_l (s : ByteArray) (hs : s.size ≤ 1000000) : ∀ (d i : Nat) (x : List Int), i + 2 * d = s.size → x.length ≤ i → V.sha_Unhex.l111010 s (i : Int) x = some (match uhx s d i with | some l => (bytesOf (x ++ l), true) | none => ((⟨#[]⟩ : ByteArray), false))
  | 0, i, x, h, hx => by
    apply V.sha_Unhex.l111010.of; unfold F.sha_Unhex.l111010.B
    rw [if_out (by omega)]
    simp [uhx]
  | d + 1, i, x, h, hx => by
    obtain ⟨b0, b1⟩ := bt_range s (i : Int)
    obtain ⟨c0, c1⟩ := bt_range s ((i + 1 : Nat) : Int)
    have r0 := hv_range b0 b1
    have r1 := hv_range c0 c1
    apply V.sha_Unhex.l111010.of; unfold F.sha_Unhex.l111010.B
    rw [if_in (by omega), guard_in (by omega), w64_up (n := s.size) (by omega) (by omega), guard_in (by omega), digit_ok b0 b1, Option.bind_some, digit_ok c0 c1, Option.bind_some]
    simp only [uhx]
    by_cases h1 : hv (byteAt s (i : Int)) ≤ 15
    · rw [if_no (by omega)]
      by_cases h2 : hv (byteAt s ((i + 1 : Nat) : Int)) ≤ 15
      · rw [if_no (by omega), guard_dec (by simp only [List.length_cons, List.length_nil, nmax]; omega), pairP r0.1 h1 r1.1 h2, w64_two (n := s.size) (by omega) (by omega)]
        rw [sha_Unhex_l s hs d (i + 2) _ (by omega) (by simp only [List.length_append, List.length_cons, List.length_nil]; omega), if_pos ⟨h1, h2⟩]
        cases uhx s d (i + 2) with
        | none => rfl
        | some l => simp
      · rw [if_yes (by omega), if_neg (fun h => h2 h.2)]
    · rw [if_yes (by omega), if_neg (fun h => h1 h.1)]
def unhexV (s : ByteArray) : ByteArray × Bool := if s.size % 2 = 0 then (match uhx s (s.size / 2) 0 with | some l => (bytesOf l, true) | none => ((⟨#[]⟩ : ByteArray), false)) else ((⟨#[]⟩ : ByteArray), false)
theorem tmod2 (n : Nat) : Int.tmod (n : Int) 2 = ((n % 2 : Nat) : Int) := by rw [Int.tmod_eq_emod_of_nonneg (by omega)]; omega
theorem sha_Unhex_ok (s : ByteArray) (hs : s.size ≤ 1000000) : V.sha_Unhex s = some (unhexV s) := by
  apply V.sha_Unhex.of; unfold F.sha_Unhex.B unhexV
  rw [tmod2]
  by_cases h : s.size % 2 = 0
  · rw [h, if_pos rfl]
    have := sha_Unhex_l s hs (s.size / 2) 0 [] (by omega) (by simp)
    exact this
  · rw [if_neg h, show (((s.size % 2 : Nat) : Int) != 0) = true from bne_ne (by omega)]; rfl
theorem bt_bytesOf {L : List Int} (hL : isBytes L) {j : Nat} (hj : j < L.length) : byteAt (bytesOf L) (j : Int) = L.getD j 0 := by
  have hb := hL _ (List.getElem_mem hj)
  unfold byteAt bytesOf
  simp [List.getD, hj]
  omega
theorem hexD_byte (k : Int) : 0 ≤ byteAt hexD k ∧ byteAt hexD k < 256 := bt_range _ _
theorem hexL_bytes (t : ByteArray) : ∀ d i, isBytes (hexL t d i)
  | 0, i => by intro x hx; cases hx
  | d + 1, i => by
    intro x hx
    simp only [hexL, List.mem_cons] at hx
    rcases hx with rfl | rfl | hx
    · exact hexD_byte _
    · exact hexD_byte _
    · exact hexL_bytes t d (i + 1) x hx
theorem hexL_at (t : ByteArray) : ∀ d i k, k < d → (hexL t d i).getD (2 * k) 0 = byteAt hexD (byteAt t ((i + k : Nat) : Int) / 16) ∧ (hexL t d i).getD (2 * k + 1) 0 = byteAt hexD (byteAt t ((i + k : Nat) : Int) % 16)
  | d + 1, i, 0, h => ⟨rfl, rfl⟩
  | d + 1, i, k + 1, h => by
    have := hexL_at t d (i + 1) k (by omega)
    rw [show i + 1 + k = i + (k + 1) by omega] at this
    exact this
theorem hv_hexD {k : Int} (h0 : 0 ≤ k) (h1 : k ≤ 15) : hv (byteAt hexD k) = k :=
  pair_fin (p := fun a b => hv (byteAt hexD a) = a) (by decide +kernel) h0 h1 (b := 0) (by omega) (by omega)
theorem uhx_hex (s t : ByteArray) : ∀ (d i p : Nat), (∀ k, k < d → byteAt s ((i + 2 * k : Nat) : Int) = byteAt hexD (byteAt t ((p + k : Nat) : Int) / 16) ∧ byteAt s ((i + 2 * k + 1 : Nat) : Int) = byteAt hexD (byteAt t ((p + k : Nat) : Int) % 16)) → uhx s d i = some (bl t d p)
  | 0, i, p, h => rfl
  | d + 1, i, p, h => by
    obtain ⟨h1, h2⟩ := h 0 (by omega)
    obtain ⟨b0, b1⟩ := bt_range t (p : Int)
    simp only [Nat.mul_zero, Nat.add_zero] at h1 h2
    simp only [uhx, bl]
    rw [h1, h2, hv_hexD (by omega) (by omega), hv_hexD (by omega) (by omega), if_pos ⟨by omega, by omega⟩]
    rw [uhx_hex s t d (i + 2) (p + 1) (fun k hk => by
      have := h (k + 1) (by omega)
      rw [show i + 2 * (k + 1) = i + 2 + 2 * k by omega, show p + (k + 1) = p + 1 + k by omega] at this
      exact this)]
    simp only [Option.map_some]
    rw [show 16 * (byteAt t (p : Int) / 16) + byteAt t (p : Int) % 16 = byteAt t (p : Int) by omega]
theorem unhex_hex (t : ByteArray) : unhexV (hexB t) = (t, true) := by
  unfold unhexV
  rw [hexB_size, if_pos (by omega), show 2 * t.size / 2 = t.size by omega]
  rw [uhx_hex (hexB t) t t.size 0 0 (fun k hk => by
    have hl := hexL_len t t.size 0
    have := hexL_at t t.size 0 k hk
    unfold hexB
    rw [show 0 + 2 * k = 2 * k by omega, bt_bytesOf (hexL_bytes t _ _) (by omega), bt_bytesOf (hexL_bytes t _ _) (by omega)]
    exact this)]
  simp only
  rw [bytesOf_bl t t.size (Nat.le_refl _)]
  simp

/-! ### Numbers -/
def in64 (x : Int) : Prop := -9223372036854775808 ≤ x ∧ x ≤ 9223372036854775807
theorem decD_digit : ∀ (n : Nat), ∀ c ∈ Lib.decDigits n, 48 ≤ c.toNat ∧ c.toNat ≤ 57 := by
  intro n
  induction n using Nat.strongRecOn with
  | _ n ih =>
    intro c hc
    by_cases h : n < 10
    · rw [Lib.decDigits_one h] at hc
      simp at hc; subst hc
      simp; omega
    · rw [Lib.decDigits, dif_neg h] at hc
      simp at hc
      rcases hc with hc | hc
      · exact ih (n / 10) (by omega) c hc
      · subst hc; simp; omega
theorem decD_ne (n : Nat) : Lib.decDigits n ≠ [] := by
  rw [Lib.decDigits]; split <;> simp
end Go.Proofs.YthnhkaaodghpgaaDoor.AE
end
section
set_option linter.unusedVariables false
set_option linter.unusedSimpArgs false
namespace Go.Proofs.YthnhkaaodghpgaaDoor.AE
open Go

theorem byte_list (l : List UInt8) (i : Nat) : byteAt ⟨l.toArray⟩ (i : Int) = ((l.getD i 0).toNat : Int) := rfl
theorem dB_digit {n i : Nat} (h : i < (dB n).size) : 48 ≤ byteAt (dB n) (i : Int) ∧ byteAt (dB n) (i : Int) ≤ 57 := by
  have hl : i < (Lib.decDigits n).length := h
  have := decD_digit n _ (List.getElem_mem hl)
  unfold dB
  rw [byte_list, show (Lib.decDigits n).getD i 0 = (Lib.decDigits n)[i] by simp [List.getD, hl]]
  omega
theorem dB_pos (n : Nat) : 0 < (dB n).size := List.length_pos_iff.2 (decD_ne n)
def andU (x : Lib.NumEnd Nat) (f : Nat → Lib.NumEnd Nat) : Lib.NumEnd Nat := match x with
  | .ok u => f u
  | y => y
theorem parseU_snoc (c : UInt8) : ∀ (l : List UInt8) (acc : Nat), Lib.parseUint10 acc (l ++ [c]) = andU (Lib.parseUint10 acc l) (fun u => Lib.parseUint10 u [c])
  | [], acc => rfl
  | x :: l, acc => by
    simp only [List.cons_append, Lib.parseUint10]
    by_cases h1 : 48 ≤ x.toNat ∧ x.toNat ≤ 57
    · rw [if_pos h1, if_pos h1]
      by_cases h2 : 1844674407370955162 ≤ acc
      · rw [if_pos h2, if_pos h2]; rfl
      · rw [if_neg h2, if_neg h2]
        by_cases h3 : 18446744073709551616 ≤ acc * 10 + (x.toNat - 48)
        · rw [if_pos h3, if_pos h3]; rfl
        · rw [if_neg h3, if_neg h3]
          exact parseU_snoc c l _
    · rw [if_neg h1, if_neg h1]; rfl
theorem parseU_dec : ∀ n : Nat, n < 18446744073709551616 → Lib.parseUint10 0 (Lib.decDigits n) = .ok n := by
  intro n
  induction n using Nat.strongRecOn with
  | _ n ih =>
    intro hn
    by_cases h : n < 10
    · have e : (UInt8.ofNat (48 + n)).toNat = 48 + n := by simp; omega
      rw [Lib.decDigits_one h]
      simp only [Lib.parseUint10, e]
      rw [if_pos (by omega), if_neg (by omega), if_neg (by omega)]
      congr 1; omega
    · have e : (UInt8.ofNat (48 + n % 10)).toNat = 48 + n % 10 := by simp; omega
      rw [Lib.decDigits, dif_neg h, parseU_snoc, ih (n / 10) (by omega) (by omega)]
      simp only [andU, Lib.parseUint10, e]
      rw [if_pos (by omega), if_neg (by omega), if_neg (by omega)]
      congr 1; omega
theorem mag_dec {n : Nat} (h : n < 18446744073709551616) : Lib.parseMag (Lib.decDigits n) = .ok n := by
  unfold Lib.parseMag; rw [if_neg (decD_ne n), parseU_dec n h]
theorem atoi_itoa {n : Int} (h : in64 n) : atoiV (itoaS n) = (n, true) := by
  have key : Lib.atoiAll (Lib.itoa n) = .ok n := by
    unfold Lib.itoa
    by_cases hn : n < 0
    · rw [if_pos hn]
      unfold Lib.atoiAll
      have := h.1
      simp only [show (45 : UInt8).toNat = 45 from rfl]
      rw [if_pos (by simp), mag_dec (by omega)]
      simp
      rw [if_neg (by omega)]
      congr 1; omega
    · rw [if_neg hn]
      have h2 := h.2
      cases hd : Lib.decDigits n.toNat with
      | nil => exact absurd hd (decD_ne _)
      | cons c r =>
        have hc := decD_digit n.toNat c (by rw [hd]; exact List.mem_cons_self)
        unfold Lib.atoiAll
        simp only
        rw [if_neg (by omega), ← hd, mag_dec (by omega)]
        simp only
        rw [if_neg (by omega), if_neg (by omega), if_neg (by omega)]
        congr 1; omega
  unfold atoiV
  rw [show (itoaS n).data.toList = Lib.itoa n from rfl, key]
theorem atoiV_in (s : ByteArray) : in64 (atoiV s).1 := by
  unfold atoiV
  cases h : Lib.atoiAll s.data.toList with
  | ok v =>
    simp only
    unfold Lib.atoiAll at h
    cases hl : s.data.toList with
    | nil => rw [hl] at h; cases h
    | cons c r =>
      rw [hl] at h
      simp only at h
      cases hm : Lib.parseMag (if c.toNat = 43 ∨ c.toNat = 45 then r else c :: r) with
      | ok u =>
        rw [hm] at h
        simp only at h
        split at h
        · cases h
        · split at h
          · cases h
          · injection h with h
            subst h
            unfold in64
            split <;> omega
      | _ => rw [hm] at h; cases h
  | range =>
    simp only
    unfold Lib.atoiSat in64
    split <;> omega
  | _ => simp only; unfold in64; omega
theorem Atoi_ok {s : ByteArray} (hs : s.size ≤ 1000000) : V.strconv_Atoi s = some (atoiV s) := by
  apply V.strconv_Atoi.of
  show atoiB s = _
  unfold atoiB
  exact guard_dec (by omega)
/-! ### What a word is read as -/
abbrev trueS : ByteArray := ⟨#[116, 114, 117, 101]⟩
abbrev falseS : ByteArray := ⟨#[102, 97, 108, 115, 101]⟩
def readF (f : ByteArray → Int × Bool) (s : ByteArray) : TValue × Bool :=
  if s = trueS then ((1, 1, ⟨#[]⟩), true) else if s = falseS then ((1, 0, ⟨#[]⟩), true)
  else if 0 < s.size ∧ byteAt s 0 = 39 then ((3, 0, s.extract 1 s.size), true)
  else if 0 < s.size ∧ byteAt s 0 = 35 then ((3, 0, (unhexV (s.extract 1 s.size)).1), (unhexV (s.extract 1 s.size)).2)
  else ((2, (f s).1, ⟨#[]⟩), (f s).2)
theorem one_byte (c : UInt8) (t : ByteArray) : byteAt ((⟨#[c]⟩ : ByteArray) ++ t) 0 = (c.toNat : Int) := by
  unfold byteAt; simp
theorem one_tail (c : UInt8) (t : ByteArray) : ((⟨#[c]⟩ : ByteArray) ++ t).extract 1 ((⟨#[c]⟩ : ByteArray) ++ t).size = t := by
  apply bytes_ext
  rw [ByteArray.toList_eq, ByteArray.toList_eq, extract_toList]
  simp
  rw [List.take_of_length_le]
  rw [data_len]; show _ ≤ 1 + _ - 1; omega
theorem in_one {a b : ByteArray} (h : byteAt a 0 ≠ byteAt b 0) : a ≠ b := fun e => h (by rw [e])
theorem readF_show {f : ByteArray → Int × Bool} (hf : ∀ n, in64 n → f (itoaS n) = (n, true)) {v : TValue} (hv : valueB v = true) (hb : in64 v.2.1) : readF f (showB v) = (v, true) := by
  obtain ⟨k, n, t⟩ := v
  unfold showB
  rw [if_pos hv]
  unfold valueB at hv
  simp only [Bool.or_eq_true, Bool.and_eq_true, beq_iff_eq, decide_eq_true_eq] at hv
  simp only at hb ⊢
  rcases hv with (⟨⟨rfl, hn⟩, ht⟩ | ⟨rfl, ht⟩) | ⟨⟨rfl, rfl⟩, ht⟩
  · obtain rfl := size_zero ht
    rw [if_pos rfl]
    rcases hn with rfl | rfl
    · rw [if_neg (by decide)]
      unfold readF
      rw [if_neg (by decide), if_pos rfl]
    · rw [if_pos rfl]
      unfold readF
      rw [if_pos rfl]
  · obtain rfl := size_zero ht
    rw [if_neg (by decide), if_pos rfl]
    have hd : byteAt (itoaS n) 0 = 45 ∨ (48 ≤ byteAt (itoaS n) 0 ∧ byteAt (itoaS n) 0 ≤ 57) := by
      by_cases hn : n < 0
      · left; rw [itoaS_neg hn, one_byte]; rfl
      · right
        obtain ⟨m, rfl⟩ := Int.eq_ofNat_of_zero_le (show 0 ≤ n by omega)
        rw [itoaS_pos]
        exact dB_digit (i := 0) (dB_pos m)
    unfold readF
    rw [if_neg (in_one (by rw [show byteAt trueS 0 = 116 from rfl]; omega)), if_neg (in_one (by rw [show byteAt falseS 0 = 102 from rfl]; omega)), if_neg (fun h => by omega), if_neg (fun h => by omega), hf n hb]
  · rw [if_neg (by decide), if_neg (by decide)]
    unfold readF
    by_cases hp : plainB t = true
    · rw [if_pos hp]
      have b0 := one_byte 39 t
      rw [if_neg (in_one (by rw [b0]; decide)), if_neg (in_one (by rw [b0]; decide)), if_pos ⟨by rw [ByteArray.size_append]; show 0 < 1 + _; omega, by rw [b0]; rfl⟩, one_tail]
    · rw [if_neg hp]
      have b0 := one_byte 35 (hexB t)
      rw [if_neg (in_one (by rw [b0]; decide)), if_neg (in_one (by rw [b0]; decide)), if_neg (fun h => by rw [b0] at h; exact absurd h.2 (by decide)), if_pos ⟨by rw [ByteArray.size_append]; show 0 < 1 + _; omega, by rw [b0]; rfl⟩, one_tail, unhex_hex]
theorem readF_in {f : ByteArray → Int × Bool} (hf : ∀ s, s.size ≤ 1000000 → in64 (f s).1) {s : ByteArray} (hs : s.size ≤ 1000000) : in64 (readF f s).1.2.1 := by
  have z : in64 0 := by unfold in64; omega
  have o : in64 1 := by unfold in64; omega
  unfold readF
  split
  · exact o
  · split
    · exact z
    · split
      · exact z
      · split
        · exact z
        · exact hf s hs
theorem HasPrefix_one (s : ByteArray) (c : UInt8) : V.strings_HasPrefix s ⟨#[c]⟩ = some (decide (0 < s.size ∧ byteAt s 0 = (c.toNat : Int))) := by
  apply V.strings_HasPrefix.of; unfold F.strings_HasPrefix.B
  have : V.stringslite_HasPrefix s ⟨#[c]⟩ = some (decide (0 < s.size ∧ byteAt s 0 = (c.toNat : Int))) := by
    apply V.stringslite_HasPrefix.of; unfold F.stringslite_HasPrefix.B
    rw [show (((⟨#[c]⟩ : ByteArray).size : Nat) : Int) = 1 from rfl]
    by_cases h : 0 < s.size
    · rw [if_yes (by omega), guard_of (by simp; omega)]
      refine congrArg some ?_
      rw [strEq_dec]
      have hx : s.extract 0 (1 : Int).toNat = (⟨#[s.get! 0]⟩ : ByteArray) := by
        apply bytes_ext
        rw [ByteArray.toList_eq, ByteArray.toList_eq, extract_toList]
        cases s with
        | mk a =>
          cases a with
          | mk l =>
            cases l with
            | nil => exact absurd h (by decide)
            | cons x l => simp [ByteArray.get!]
      rw [hx, show byteAt s 0 = ((s.get! 0).toNat : Int) from bt_get h]
      rw [Bool.eq_iff_iff]
      simp only [decide_eq_true_eq]
      constructor
      · intro e
        have : s.get! 0 = c := by
          have := congrArg (fun b : ByteArray => b.data[0]!) e
          simpa using this
        exact ⟨h, by rw [this]⟩
      · rintro ⟨_, e⟩
        have : s.get! 0 = c := UInt8.toNat_inj.1 (by omega)
        rw [this]
    · rw [if_no (by omega)]
      rw [decide_eq_false (fun e => h e.1)]
  rw [this, Option.bind_some]
theorem tail_guard {α : Type} {s : ByteArray} {a : Option α} (h : 0 < s.size) : guardK (decide (1 ≤ (s.size : Int)) && decide ((s.size : Int) ≤ (s.size : Int))) a = a := guard_of (by simp; omega)
theorem read_ok {s : ByteArray} (hs : s.size ≤ 1000000) : V.value_read s = some (readF atoiV s) := by
  apply V.value_read.of; unfold F.value_read.B readF
  have hx := extract_size s 1 s.size
  rw [strEq_dec, strEq_dec]
  by_cases h1 : s = trueS
  · rw [if_pos h1, if_yes h1]
  · rw [if_neg h1, if_no h1]
    by_cases h2 : s = falseS
    · rw [if_pos h2, if_yes h2]
    · rw [if_neg h2, if_no h2, HasPrefix_one, Option.bind_some]
      by_cases h3 : 0 < s.size ∧ byteAt s 0 = 39
      · rw [if_pos h3, show decide (0 < s.size ∧ byteAt s 0 = (((39 : UInt8).toNat : Nat) : Int)) = true from decide_eq_true h3, cond_true, tail_guard h3.1, nat_cast]
      · rw [if_neg h3, show decide (0 < s.size ∧ byteAt s 0 = (((39 : UInt8).toNat : Nat) : Int)) = false from decide_eq_false h3, cond_false, HasPrefix_one, Option.bind_some]
        by_cases h4 : 0 < s.size ∧ byteAt s 0 = 35
        · rw [if_pos h4, show decide (0 < s.size ∧ byteAt s 0 = (((35 : UInt8).toNat : Nat) : Int)) = true from decide_eq_true h4, cond_true, tail_guard h4.1, nat_cast, sha_Unhex_ok _ (by omega), Option.bind_some]
        · rw [if_neg h4, show decide (0 < s.size ∧ byteAt s 0 = (((35 : UInt8).toNat : Nat) : Int)) = false from decide_eq_false h4, cond_false, Atoi_ok hs, Option.bind_some]
noncomputable def parseF (f : ByteArray → Int × Bool) (s : ByteArray) : Option TValue := if (readF f s).2 = true ∧ showB (readF f s).1 = s then some (readF f s).1 else none
theorem Parse_ok {s : ByteArray} (hs : s.size ≤ 1000000) : V.value_Parse s = some (match parseF atoiV s with | some v => (v, 0) | none => ((0, 0, (⟨#[]⟩ : ByteArray)), 3)) := by
  apply V.value_Parse.of; unfold F.value_Parse.B
  have hb := readF_in (f := atoiV) (fun s _ => atoiV_in s) hs
  rw [read_ok hs, Option.bind_some]
  unfold parseF
  have E : ∀ v : TValue, (v.1, v.2.1, v.2.2) = v := fun v => rfl
  rw [E, value_Show_ok _ hb, Option.bind_some, strEq_dec]
  cases h : (readF atoiV s).2 with
  | false => simp
  | true =>
    by_cases g : showB (readF atoiV s).1 = s
    · simp [g]
    · simp [g]
end Go.Proofs.YthnhkaaodghpgaaDoor.AE
end
section
set_option linter.unusedVariables false
set_option linter.unusedSimpArgs false
namespace Go.Proofs.YthnhkaaodghpgaaDoor.AE
open Go
theorem take_valid {s : ByteArray} (h : (takeV s).2 = 0) : valueB (takeV s).1 = true ∧ in64 (takeV s).1.2.1 ∧ valB (takeV s).1 = s := by
  unfold takeV at *
  cases hv : valueP s 0 with
  | none => rw [hv] at h; exact absurd h (valueE_ne s 0)
  | some x =>
    obtain ⟨⟨k, n, t⟩, b⟩ := x
    rw [hv] at h
    simp only at h ⊢
    by_cases hb : b < s.size
    · rw [if_pos hb] at h; exact absurd h (by decide)
    · rw [if_neg hb]
      obtain ⟨h1, h2, h3, h4⟩ := (valueP_iff s 0 k n t b (by omega)).1 hv
      have := at_le h4
      refine ⟨h1, h2, at_all h4 ?_⟩
      show (valB (k, n, t)).size = s.size
      omega
theorem take_back {v : TValue} (hv : valueB v = true) (hb : in64 v.2.1) : takeV (valB v) = (v, 0) := by
  obtain ⟨k, n, t⟩ := v
  unfold takeV
  rw [(valueP_iff (valB (k, n, t)) 0 k n t (valB (k, n, t)).size (by omega)).2 ⟨hv, hb, by omega, at_whole _⟩]
  simp
theorem parse_back {v : TValue} (hv : valueB v = true) (hb : in64 v.2.1) : parseF atoiV (showB v) = some v := by
  unfold parseF
  rw [readF_show (fun n h => atoi_itoa h) hv hb, if_pos ⟨rfl, rfl⟩]
theorem showB_size {v : TValue} (hv : valueB v = true) (hb : in64 v.2.1) : (showB v).size ≤ 1000 := by
  obtain ⟨_, ht⟩ := value_kind hv
  unfold showB
  rw [if_pos hv]
  split
  · split <;> decide
  · split
    · have := itoaS_size hb.1 hb.2; omega
    · split
      · rw [one_app]; omega
      · rw [one_app, hexB_size]; omega
theorem ValueBack_pure (v : TValue) (s : ByteArray) (hb : in64 v.2.1) : V.pleachlaw06_ValueBack v s = some true := by
  apply V.pleachlaw06_ValueBack.of; unfold F.pleachlaw06_ValueBack.B
  have E : ∀ v : TValue, (v.1, v.2.1, v.2.2) = v := fun v => rfl
  simp only [E]
  rw [awake06_ok]
  by_cases h : (v.2.2.size : Int) > 1000
  · rw [if_yes h]; rfl
  · rw [if_no h]
    by_cases g : (s.size : Int) > 1000
    · rw [if_yes g]; rfl
    · rw [if_no g, Take_ok s (by omega), Option.bind_some, value_Check_ok, Option.bind_some]
      have rest : (bif ((if valueB v then 0 else 2 : Int) != 0) then ((some true : Option Bool).bind fun t5 => (some t5)) else ((V.value_Put v).bind fun t6 => ((V.value_Take t6.1).bind fun t7 => ((V.value_Show v).bind fun t8 => ((V.value_Parse t8).bind fun t9 => (bif ((t7.1.1 == v.1) && ((t7.1.2.1 == v.2.1) && ((strEq t7.1.2.2 v.2.2) && true))) then (bif (t7.2 == 0) then (bif ((t9.1.1 == v.1) && ((t9.1.2.1 == v.2.1) && ((strEq t9.1.2.2 v.2.2) && true))) then (bif (t9.2 == 0) then ((some true : Option Bool).bind fun t10 => (some t10)) else (some false)) else (some false)) else (some false)) else (some false))))))) = some true := by
        cases hv : valueB v with
        | false => rfl
        | true =>
          have hz := valB_size v
          have hw := showB_size hv hb
          rw [value_Put_ok v hb, value_Show_ok v hb]
          simp only [Option.bind_some]
          rw [Take_ok _ (by omega), Parse_ok (by omega), take_back hv hb, parse_back hv hb]
          simp [strEq_self]
      cases ht : ((takeV s).2 == 0) with
      | false => rw [cond_false]; exact rest
      | true =>
        obtain ⟨h1, h2, h3⟩ := take_valid (beq_iff_eq.1 ht)
        rw [cond_true, value_Put_ok _ h2, h3, h1]
        simp only [Option.bind_some, strEq_self, Bool.not_true, cond_false]
        exact rest
end Go.Proofs.YthnhkaaodghpgaaDoor.AE
end
section
namespace Go.Proofs.YthnhkaaodghpgaaDoor.AE
open Go Go.ChangeShapes Go.WideShapes Go.ChangeAt Go.RowKit Go.Lib Go.Sort
variable {W₀ : World}
theorem weights_each {H : Type} {P : Program} {p : Nat → Bool} {ts : List TypeId} {ds : List (DataW H)} (h : (DataW.weightsEach P ts ds).all p = true) {j : Nat} {t : TypeId} {d : DataW H} (ht : ts[j]? = some t) (hd : ds[j]? = some d) : ∀ n ∈ d.weights P t, p n = true :=
  fun n hn => List.all_eq_true.1 h _ (DataW.weights_mem_each ht hd n hn)
theorem own : ownKnob Tryd.prog.godebug = none := by kernel_rfl
theorem laidOut : laidOutB Tryd.prog = true := by kernel_rfl
theorem mix : Tryd.prog.follows .mixedOrders = true := by kernel_rfl
theorem numGoB : (Tryd.prog.funcs.all fun fn => !(fn.name == "runtime.NumGoroutine")) = true := by kernel_rfl
theorem num (f : FuncId) (fn : Func) (h : Tryd.prog.funcs[f]? = some fn) : (fn.name == "runtime.NumGoroutine") = false := by
  have := Array.all_eq_true_iff_forall_mem.1 numGoB fn (Array.mem_of_getElem? h)
  simpa using this
def layAtoi_ren : Go.Shelf.Ren := ⟨fun i => match i with | 129 => 95 | 171 => 31 | 172 => 72 | 205 => 101 | 243 => 55 | 244 => 82 | 245 => 83 | 246 => 75 | 247 => 89 | 279 => 90 | 280 => 91 | 281 => 92 | 282 => 93 | 283 => 84 | 284 => 85 | 285 => 86 | 286 => 87 | 287 => 99 | 316 => 100 | 317 => 94 | 318 => 96 | 319 => 97 | 320 => 98 | 321 => 104 | 322 => 105 | 337 => 102 | 338 => 103 | _ => 0, fun i => match i with | 0 => 0 | 2 => 2 | 3 => 3 | 4 => 4 | 5 => 5 | 9 => 9 | 20 => 20 | 21 => 21 | 37 => 51 | 46 => 76 | 51 => 109 | 53 => 55 | 75 => 87 | 76 => 88 | 80 => 124 | 85 => 102 | 127 => 118 | 143 => 119 | 145 => 121 | 167 => 101 | 168 => 104 | 171 => 96 | 173 => 98 | 175 => 112 | 210 => 115 | 212 => 108 | 213 => 110 | 232 => 122 | 233 => 123 | _ => 0, fun i => match i with | 15 => 2 | 16 => 3 | 17 => 1 | 18 => 4 | 19 => 5 | _ => 0⟩
set_option maxRecDepth 100000 in
theorem layAtoi : Go.Proofs.LaysC.n172 Tryd.prog layAtoi_ren where
  mixed := mix
  f129 := Tryd.func95.trans (congrArg some (by kernel_rfl))
  f171 := Tryd.func31.trans (congrArg some (by kernel_rfl))
  f172 := Tryd.func72.trans (congrArg some (by kernel_rfl))
  f205 := Tryd.func101.trans (congrArg some (by kernel_rfl))
  f243 := Tryd.func55.trans (congrArg some (by kernel_rfl))
  f244 := Tryd.func82.trans (congrArg some (by kernel_rfl))
  f245 := Tryd.func83.trans (congrArg some (by kernel_rfl))
  f246 := Tryd.func75.trans (congrArg some (by kernel_rfl))
  f247 := Tryd.func89.trans (congrArg some (by kernel_rfl))
  f279 := Tryd.func90.trans (congrArg some (by kernel_rfl))
  f280 := Tryd.func91.trans (congrArg some (by kernel_rfl))
  f281 := Tryd.func92.trans (congrArg some (by kernel_rfl))
  f282 := Tryd.func93.trans (congrArg some (by kernel_rfl))
  f283 := Tryd.func84.trans (congrArg some (by kernel_rfl))
  f284 := Tryd.func85.trans (congrArg some (by kernel_rfl))
  f285 := Tryd.func86.trans (congrArg some (by kernel_rfl))
  f286 := Tryd.func87.trans (congrArg some (by kernel_rfl))
  f287 := Tryd.func99.trans (congrArg some (by kernel_rfl))
  f316 := Tryd.func100.trans (congrArg some (by kernel_rfl))
  f317 := Tryd.func94.trans (congrArg some (by kernel_rfl))
  f318 := Tryd.func96.trans (congrArg some (by kernel_rfl))
  f319 := Tryd.func97.trans (congrArg some (by kernel_rfl))
  f320 := Tryd.func98.trans (congrArg some (by kernel_rfl))
  f321 := Tryd.func104.trans (congrArg some (by kernel_rfl))
  f322 := Tryd.func105.trans (congrArg some (by kernel_rfl))
  f337 := Tryd.func102.trans (congrArg some (by kernel_rfl))
  f338 := Tryd.func103.trans (congrArg some (by kernel_rfl))
  t0 := by kernel_rfl
  a0 := by intro w; kernel_rfl
  z0 := by intro w; kernel_rfl
  v0 := by intro w; kernel_rfl
  t2 := by kernel_rfl
  a2 := by intro w; kernel_rfl
  z2 := by intro w; kernel_rfl
  v2 := by intro w; kernel_rfl
  t3 := by kernel_rfl
  a3 := by intro w; kernel_rfl
  z3 := by intro w; kernel_rfl
  v3 := by intro w; kernel_rfl
  t4 := by kernel_rfl
  a4 := by intro w; kernel_rfl
  z4 := by intro w; kernel_rfl
  v4 := by intro w; kernel_rfl
  t5 := by kernel_rfl
  a5 := by intro w; kernel_rfl
  z5 := by intro w; kernel_rfl
  v5 := by intro w; kernel_rfl
  t9 := by kernel_rfl
  a9 := by intro w; kernel_rfl
  z9 := by intro w; kernel_rfl
  v9 := by intro w; kernel_rfl
  t20 := by kernel_rfl
  a20 := by intro w; kernel_rfl
  z20 := by intro w; kernel_rfl
  v20 := by intro w; kernel_rfl
  t21 := by kernel_rfl
  a21 := by intro w; kernel_rfl
  z21 := by intro w; kernel_rfl
  v21 := by intro w; kernel_rfl
  t37 := by kernel_rfl
  a37 := by intro w; kernel_rfl
  z37 := by intro w; kernel_rfl
  v37 := by intro w; kernel_rfl
  t46 := by kernel_rfl
  a46 := by intro w; kernel_rfl
  z46 := by intro w; kernel_rfl
  v46 := by intro w; kernel_rfl
  t51 := by kernel_rfl
  a51 := by intro w; kernel_rfl
  z51 := by intro w; kernel_rfl
  v51 := by intro w; kernel_rfl
  t53 := by kernel_rfl
  a53 := by intro w; kernel_rfl
  z53 := by intro w; kernel_rfl
  v53 := by intro w; kernel_rfl
  t75 := by kernel_rfl
  a75 := by intro w; kernel_rfl
  z75 := by intro w; kernel_rfl
  v75 := by intro w; kernel_rfl
  t76 := by kernel_rfl
  a76 := by intro w; kernel_rfl
  z76 := by intro w; kernel_rfl
  v76 := by intro w; kernel_rfl
  t85 := by kernel_rfl
  a85 := by intro w; kernel_rfl
  z85 := by intro w; kernel_rfl
  v85 := by intro w; kernel_rfl
  t127 := by kernel_rfl
  a127 := by intro w; kernel_rfl
  z127 := by intro w; kernel_rfl
  v127 := by intro w; kernel_rfl
  t143 := by kernel_rfl
  a143 := by intro w; kernel_rfl
  z143 := by intro w; kernel_rfl
  v143 := by intro w; kernel_rfl
  t145 := by kernel_rfl
  a145 := by intro w; kernel_rfl
  z145 := by intro w; kernel_rfl
  v145 := by intro w; kernel_rfl
  t167 := by kernel_rfl
  a167 := by intro w; kernel_rfl
  z167 := by intro w; kernel_rfl
  v167 := by intro w; kernel_rfl
  t168 := by kernel_rfl
  a168 := by intro w; kernel_rfl
  z168 := by intro w; kernel_rfl
  v168 := by intro w; kernel_rfl
  t171 := by kernel_rfl
  a171 := by intro w; kernel_rfl
  z171 := by intro w; kernel_rfl
  v171 := by intro w; kernel_rfl
  t173 := by kernel_rfl
  a173 := by intro w; kernel_rfl
  z173 := by intro w; kernel_rfl
  v173 := by intro w; kernel_rfl
  t175 := by kernel_rfl
  a175 := by intro w; kernel_rfl
  z175 := by intro w; kernel_rfl
  v175 := by intro w; kernel_rfl
  t210 := by kernel_rfl
  a210 := by intro w; kernel_rfl
  z210 := by intro w; kernel_rfl
  v210 := by intro w; kernel_rfl
  t212 := by kernel_rfl
  a212 := by intro w; kernel_rfl
  z212 := by intro w; kernel_rfl
  v212 := by intro w; kernel_rfl
  t213 := by kernel_rfl
  a213 := by intro w; kernel_rfl
  z213 := by intro w; kernel_rfl
  t232 := by kernel_rfl
  a232 := by intro w; kernel_rfl
  z232 := by intro w; kernel_rfl
  v232 := by intro w; kernel_rfl
  t233 := by kernel_rfl
  a233 := by intro w; kernel_rfl
  z233 := by intro w; kernel_rfl
  v233 := by intro w; kernel_rfl
  g15 := by kernel_rfl
  g16 := by kernel_rfl
  g17 := by kernel_rfl
  g18 := by kernel_rfl
  g19 := by kernel_rfl
  t80 := by kernel_rfl
  a80 := by intro w; kernel_rfl
  z80 := by intro w; kernel_rfl
  v80 := by intro w; kernel_rfl
  i0 := by kernel_rfl
  i2 := by kernel_rfl
  i3 := by kernel_rfl
  i4 := by kernel_rfl
  i5 := by kernel_rfl
  i9 := by kernel_rfl
  i20 := by kernel_rfl
  i21 := by kernel_rfl
  i37 := by kernel_rfl
  i46 := by kernel_rfl
  i51 := by kernel_rfl
  i53 := by kernel_rfl
  i75 := by kernel_rfl
  i76 := by kernel_rfl
  i80 := by kernel_rfl
  i85 := by kernel_rfl
  i127 := by kernel_rfl
  i143 := by kernel_rfl
  i145 := by kernel_rfl
  i167 := by kernel_rfl
  i168 := by kernel_rfl
  i171 := by kernel_rfl
  i173 := by kernel_rfl
  i175 := by kernel_rfl
  i210 := by kernel_rfl
  i212 := by kernel_rfl
  i232 := by kernel_rfl
  i233 := by kernel_rfl
  m15 := by kernel_rfl
  m16 := by kernel_rfl
  m17 := by kernel_rfl
  m18 := by kernel_rfl
  m19 := by kernel_rfl
  c0 := by kernel_rfl
  c2 := by kernel_rfl
  c3 := by kernel_rfl
  c4 := by kernel_rfl
  c5 := by kernel_rfl
  c9 := by kernel_rfl
  c20 := by kernel_rfl
  c21 := by kernel_rfl
  c37 := by kernel_rfl
  c46 := by kernel_rfl
  c51 := by kernel_rfl
  c53 := by kernel_rfl
  c75 := by kernel_rfl
  c76 := by kernel_rfl
  c80 := by kernel_rfl
  c85 := by kernel_rfl
  c127 := by kernel_rfl
  c143 := by kernel_rfl
  c145 := by kernel_rfl
  c167 := by kernel_rfl
  c168 := by kernel_rfl
  c171 := by kernel_rfl
  c173 := by kernel_rfl
  c175 := by kernel_rfl
  c210 := by kernel_rfl
  c212 := by kernel_rfl
  c213 := by kernel_rfl
  c232 := by kernel_rfl
  c233 := by kernel_rfl
theorem starErr : "*" ++ "errors.errorString" = "*errors.errorString" := by decide
theorem rowErr (u : TypeId) (h : Tryd.prog.typeName? 3 u = some "*errors.errorString") : u = 119 :=
  typeName_ptr_named (nm := "errors.errorString") (by rw [starErr]; kernel_rfl) (by kernel_rfl) (by decide) u (by rw [starErr]; exact h)
def layCont_ren : Go.Shelf.Ren := ⟨fun i => match i with | 15 => 76 | 17 => 56 | 20 => 88 | _ => 0, fun i => match i with | 0 => 0 | 3 => 3 | 4 => 4 | 9 => 9 | 21 => 21 | 23 => 75 | _ => 0, fun x => x⟩
set_option maxRecDepth 100000 in
theorem layCont : Go.Proofs.LaysGw.n17 Tryd.prog layCont_ren where
  mixed := mix
  f15 := Tryd.func76.trans (congrArg some (by kernel_rfl))
  f17 := Tryd.func56.trans (congrArg some (by kernel_rfl))
  f20 := Tryd.func88.trans (congrArg some (by kernel_rfl))
  t0 := by kernel_rfl
  a0 := by intro w; kernel_rfl
  z0 := by intro w; kernel_rfl
  v0 := by intro w; kernel_rfl
  i0 := by kernel_rfl
  t3 := by kernel_rfl
  a3 := by intro w; kernel_rfl
  z3 := by intro w; kernel_rfl
  v3 := by intro w; kernel_rfl
  i3 := by kernel_rfl
  t4 := by kernel_rfl
  a4 := by intro w; kernel_rfl
  z4 := by intro w; kernel_rfl
  v4 := by intro w; kernel_rfl
  i4 := by kernel_rfl
  t9 := by kernel_rfl
  a9 := by intro w; kernel_rfl
  z9 := by intro w; kernel_rfl
  v9 := by intro w; kernel_rfl
  i9 := by kernel_rfl
  t21 := by kernel_rfl
  a21 := by intro w; kernel_rfl
  z21 := by intro w; kernel_rfl
  v21 := by intro w; kernel_rfl
  i21 := by kernel_rfl
  t23 := by kernel_rfl
  a23 := by intro w; kernel_rfl
  z23 := by intro w; kernel_rfl
  v23 := by intro w; kernel_rfl
  i23 := by kernel_rfl
theorem pred57 (w : World) : PredAt Tryd.prog 57 #[] encR badR w := by
  intro W x hb
  unfold FnGives
  show Calls Tryd.prog 57 #[.int .i32 (x : Int)] W _
  go_enter Tryd.func57, Tryd.ntmps57
  go_wp2
  all_goals
    go_ret
    refine ⟨congrArg (fun b => Ending.returned (Value.bool b)) ?_, 0, rfl⟩
    simp only [badR]
    rw [Bool.eq_iff_iff]
    simp
    try omega
def layItoa_ren : Go.Shelf.Ren := ⟨fun i => match i with | 129 => 95 | 171 => 31 | 243 => 55 | 246 => 75 | 283 => 84 | 284 => 85 | 285 => 86 | 286 => 87 | 317 => 94 | 318 => 96 | 319 => 97 | 320 => 98 | 337 => 102 | 338 => 103 | _ => 0, fun i => match i with | 0 => 0 | 2 => 2 | 3 => 3 | 4 => 4 | 5 => 5 | 9 => 9 | 20 => 20 | 37 => 51 | 46 => 76 | 51 => 109 | 53 => 55 | 171 => 96 | 173 => 98 | 212 => 108 | 213 => 110 | 232 => 122 | 233 => 123 | _ => 0, fun i => match i with | 17 => 1 | 18 => 4 | 19 => 5 | _ => 0⟩
set_option maxRecDepth 100000 in
theorem layItoa : Go.Proofs.LaysM.n171 Tryd.prog layItoa_ren where
  mixed := mix
  f129 := Tryd.func95.trans (congrArg some (by kernel_rfl))
  f171 := Tryd.func31.trans (congrArg some (by kernel_rfl))
  f243 := Tryd.func55.trans (congrArg some (by kernel_rfl))
  f246 := Tryd.func75.trans (congrArg some (by kernel_rfl))
  f283 := Tryd.func84.trans (congrArg some (by kernel_rfl))
  f284 := Tryd.func85.trans (congrArg some (by kernel_rfl))
  f285 := Tryd.func86.trans (congrArg some (by kernel_rfl))
  f286 := Tryd.func87.trans (congrArg some (by kernel_rfl))
  f317 := Tryd.func94.trans (congrArg some (by kernel_rfl))
  f318 := Tryd.func96.trans (congrArg some (by kernel_rfl))
  f319 := Tryd.func97.trans (congrArg some (by kernel_rfl))
  f320 := Tryd.func98.trans (congrArg some (by kernel_rfl))
  f337 := Tryd.func102.trans (congrArg some (by kernel_rfl))
  f338 := Tryd.func103.trans (congrArg some (by kernel_rfl))
  t0 := by kernel_rfl
  a0 := by intro w; kernel_rfl
  z0 := by intro w; kernel_rfl
  v0 := by intro w; kernel_rfl
  t2 := by kernel_rfl
  a2 := by intro w; kernel_rfl
  z2 := by intro w; kernel_rfl
  v2 := by intro w; kernel_rfl
  t3 := by kernel_rfl
  a3 := by intro w; kernel_rfl
  z3 := by intro w; kernel_rfl
  v3 := by intro w; kernel_rfl
  t4 := by kernel_rfl
  a4 := by intro w; kernel_rfl
  z4 := by intro w; kernel_rfl
  v4 := by intro w; kernel_rfl
  t5 := by kernel_rfl
  a5 := by intro w; kernel_rfl
  z5 := by intro w; kernel_rfl
  v5 := by intro w; kernel_rfl
  t9 := by kernel_rfl
  a9 := by intro w; kernel_rfl
  z9 := by intro w; kernel_rfl
  v9 := by intro w; kernel_rfl
  t20 := by kernel_rfl
  a20 := by intro w; kernel_rfl
  z20 := by intro w; kernel_rfl
  v20 := by intro w; kernel_rfl
  t37 := by kernel_rfl
  a37 := by intro w; kernel_rfl
  z37 := by intro w; kernel_rfl
  v37 := by intro w; kernel_rfl
  t46 := by kernel_rfl
  a46 := by intro w; kernel_rfl
  z46 := by intro w; kernel_rfl
  v46 := by intro w; kernel_rfl
  t51 := by kernel_rfl
  a51 := by intro w; kernel_rfl
  z51 := by intro w; kernel_rfl
  v51 := by intro w; kernel_rfl
  t53 := by kernel_rfl
  a53 := by intro w; kernel_rfl
  z53 := by intro w; kernel_rfl
  v53 := by intro w; kernel_rfl
  t171 := by kernel_rfl
  a171 := by intro w; kernel_rfl
  z171 := by intro w; kernel_rfl
  v171 := by intro w; kernel_rfl
  t173 := by kernel_rfl
  a173 := by intro w; kernel_rfl
  z173 := by intro w; kernel_rfl
  v173 := by intro w; kernel_rfl
  t212 := by kernel_rfl
  a212 := by intro w; kernel_rfl
  z212 := by intro w; kernel_rfl
  v212 := by intro w; kernel_rfl
  t213 := by kernel_rfl
  a213 := by intro w; kernel_rfl
  z213 := by intro w; kernel_rfl
  t232 := by kernel_rfl
  a232 := by intro w; kernel_rfl
  z232 := by intro w; kernel_rfl
  v232 := by intro w; kernel_rfl
  t233 := by kernel_rfl
  a233 := by intro w; kernel_rfl
  z233 := by intro w; kernel_rfl
  v233 := by intro w; kernel_rfl
  g17 := by kernel_rfl
  g18 := by kernel_rfl
  g19 := by kernel_rfl
  i0 := by kernel_rfl
  i2 := by kernel_rfl
  i3 := by kernel_rfl
  i4 := by kernel_rfl
  i5 := by kernel_rfl
  i9 := by kernel_rfl
  i20 := by kernel_rfl
  i37 := by kernel_rfl
  i46 := by kernel_rfl
  i51 := by kernel_rfl
  i53 := by kernel_rfl
  i171 := by kernel_rfl
  i173 := by kernel_rfl
  i212 := by kernel_rfl
  i232 := by kernel_rfl
  i233 := by kernel_rfl
  m17 := by kernel_rfl
  m18 := by kernel_rfl
  m19 := by kernel_rfl
theorem extok (htab : Lib.TabIs Tryd.prog W₀ "internal/strconv.uint64pow10" .u64 Lib.pow10Tab) {t1 t2 : TypeId} {p1 p2 : Value} (hsyn : W₀.var? Tryd.prog "strconv.ErrSyntax" = some #[.iface t1 p1]) (hran : W₀.var? Tryd.prog "strconv.ErrRange" = some #[.iface t2 p2]) : ExtOk W₀ Tryd.prog sg := .of (show extAll W₀ Tryd.prog sgT from
  ⟨.nothing rfl rfl,
  ⟨.nothing rfl rfl,
  ⟨.nothing rfl rfl,
  ⟨.nothing rfl rfl,
  ⟨.nothing rfl rfl,
  ⟨.nothing rfl rfl,
  ⟨.nothing rfl rfl,
  ⟨.nothing rfl rfl,
  ⟨.nothing rfl rfl,
  ⟨.nothing rfl rfl,
  ⟨.nothing rfl rfl,
  ⟨.nothing rfl rfl,
  ⟨.nothing rfl rfl,
  ⟨.nothing rfl rfl,
  ⟨.nothing rfl rfl,
  ⟨.nothing rfl rfl,
  ⟨.nothing rfl rfl,
  ⟨.nothing rfl rfl,
  ⟨.nothing rfl rfl,
  ⟨.nothing rfl rfl,
  ⟨.nothing rfl rfl,
  ⟨.nothing rfl rfl,
  ⟨.nothing rfl rfl,
  ⟨.nothing rfl rfl,
  ⟨.nothing rfl rfl,
  ⟨.nothing rfl rfl,
  ⟨.nothing rfl rfl,
  ⟨.nothing rfl rfl,
  ⟨(itoa_ext layItoa rfl htab),
  ⟨.nothing rfl rfl,
  ⟨.nothing rfl rfl,
  ⟨.nothing rfl rfl,
  ⟨.nothing rfl rfl,
  ⟨.nothing rfl rfl,
  ⟨.nothing rfl rfl,
  ⟨.nothing rfl rfl,
  ⟨.nothing rfl rfl,
  ⟨.nothing rfl rfl,
  ⟨.nothing rfl rfl,
  ⟨.nothing rfl rfl,
  ⟨.nothing rfl rfl,
  ⟨.nothing rfl rfl,
  ⟨.nothing rfl rfl,
  ⟨.nothing rfl rfl,
  ⟨.nothing rfl rfl,
  ⟨.nothing rfl rfl,
  ⟨.nothing rfl rfl,
  ⟨.nothing rfl rfl,
  ⟨.nothing rfl rfl,
  ⟨.nothing rfl rfl,
  ⟨.nothing rfl rfl,
  ⟨.nothing rfl rfl,
  ⟨(cont_ext layCont rfl (enters_of Tryd.func57 (by kernel_rfl) rfl) pred57),
  ⟨.nothing rfl rfl,
  ⟨.nothing rfl rfl,
  ⟨.nothing rfl rfl,
  ⟨.nothing rfl rfl,
  ⟨.nothing rfl rfl,
  ⟨.nothing rfl rfl,
  ⟨.nothing rfl rfl,
  ⟨.nothing rfl rfl,
  ⟨.nothing rfl rfl,
  ⟨.nothing rfl rfl,
  ⟨.nothing rfl rfl,
  ⟨.nothing rfl rfl,
  ⟨.nothing rfl rfl,
  ⟨.nothing rfl rfl,
  ⟨(atoi_ext layAtoi rfl hsyn hran),
  ⟨.nothing rfl rfl,
  ⟨.nothing rfl rfl,
  ⟨.ofOp rfl rfl (opCompare_ok Tryd.func77 (by kernel_rfl) (by kernel_rfl) (by kernel_rfl) (by kernel_rfl)),
  ⟨.nothing rfl rfl,
  ⟨.nothing rfl rfl,
  ⟨.nothing rfl rfl,
  ⟨.nothing rfl rfl,
  trivial⟩⟩⟩⟩⟩⟩⟩⟩⟩⟩⟩⟩⟩⟩⟩⟩⟩⟩⟩⟩⟩⟩⟩⟩⟩⟩⟩⟩⟩⟩⟩⟩⟩⟩⟩⟩⟩⟩⟩⟩⟩⟩⟩⟩⟩⟩⟩⟩⟩⟩⟩⟩⟩⟩⟩⟩⟩⟩⟩⟩⟩⟩⟩⟩⟩⟩⟩⟩⟩⟩⟩⟩⟩⟩⟩)
end Go.Proofs.YthnhkaaodghpgaaDoor.AE
end
section
namespace Go.Proofs.YthnhkaaodghpgaaDoor.AE.valueBack
open Go Go.ChangeShapes Go.WideShapes Go.ChangeAt Go.RowKit
open Go.ChangeMaps (open_string shut_string)
set_option linter.unusedVariables false
def Pure : Prop := ∀ (x0 : den ((.prod (.int .i64) (.prod (.int .i64) .str)))) (x1 : den .str), Gd ((.prod (.int .i64) (.prod (.int .i64) .str))) x0 → Gd .str x1 → ∃ K, F.pleachlaw06_ValueBack K x0 x1 = some true
theorem door_met (os : Os) (args : Array Value) : laidMetH Tryd.prog Rows.valueBackRow.laid ((World.doorLaid Tryd.prog 400 os).forCall (fun _ _ => 0) ⟨#[], args, []⟩).memory :=
  laidMetH_of_parts3 (fuel := 8) (laidMet_of_run' 8 (by kernel_rfl) (by kernel_rfl)) (by kernel_rfl) (by kernel_rfl)
theorem tab_is : (Rows.laid_internal_strconv_uint64pow10 : DataW Unit) = Lib.tabData .u64 Lib.pow10Tab := by kernel_rfl
theorem tab_of {W : World} (h : laidMetH Tryd.prog Rows.valueBackRow.laid W) : Lib.TabIs Tryd.prog W "internal/strconv.uint64pow10" .u64 Lib.pow10Tab := by
  rw [MakeChecks.laidMetH_plain _ _ _ (by kernel_rfl)] at h
  obtain ⟨ps, ⟨_, _, _, _, _, _, _, _, _, _, ⟨_, _, _, _, _, _, _, _, _, _, ⟨g, t, cs, f, p, q, hg, ht, hv, hd, _, _⟩, _⟩, _⟩, _, _⟩ := h
  obtain rfl := Option.some.inj ((show Tryd.prog.globalNamed "internal/strconv.uint64pow10" = some 1 by kernel_rfl).symm.trans hg)
  obtain rfl := Option.some.inj ((show (Tryd.prog.globals[1]?).map (·.type) = some 108 by kernel_rfl).symm.trans ht)
  rw [tab_is] at hd
  unfold Lib.TabIs
  rw [hv, ← Lib.cells_of_tab Tryd.underlying108 Tryd.underlying55 (by kernel_rfl) (by kernel_rfl) hd]
theorem syn_of {W : World} (h : laidMetH Tryd.prog Rows.valueBackRow.laid W) : ∃ t p, W.var? Tryd.prog "strconv.ErrSyntax" = some #[.iface t p] := by
  rw [MakeChecks.laidMetH_plain _ _ _ (by kernel_rfl)] at h
  obtain ⟨a1, s1, hv1, _⟩ := laid_sentinel (show laidMet Tryd.prog (_ :: _) W from h.tail.tail.tail.tail) (show Tryd.prog.globalNamed "strconv.ErrSyntax" = some 2 by kernel_rfl) (show (Tryd.prog.globals[2]?).map (·.type) = some 87 by kernel_rfl) Tryd.underlying87 rowErr Tryd.underlying119 Tryd.underlying121 rfl rfl Tryd.underlying9 (by kernel_rfl) (by kernel_rfl)
  exact ⟨_, _, hv1⟩
theorem ran_of {W : World} (h : laidMetH Tryd.prog Rows.valueBackRow.laid W) : ∃ t p, W.var? Tryd.prog "strconv.ErrRange" = some #[.iface t p] := by
  rw [MakeChecks.laidMetH_plain _ _ _ (by kernel_rfl)] at h
  obtain ⟨a1, s1, hv1, _⟩ := laid_sentinel (show laidMet Tryd.prog (_ :: _) W from h.tail.tail.tail) (show Tryd.prog.globalNamed "strconv.ErrRange" = some 3 by kernel_rfl) (show (Tryd.prog.globals[3]?).map (·.type) = some 87 by kernel_rfl) Tryd.underlying87 rowErr Tryd.underlying119 Tryd.underlying121 rfl rfl Tryd.underlying9 (by kernel_rfl) (by kernel_rfl)
  exact ⟨_, _, hv1⟩
set_option maxRecDepth 100000 in
theorem lifted (pure : Pure) (os : Os) (started : os.Started) (H : Type) (enc : TypeId × Value → H) :
    ReturnsInHanded {} Tryd.checked os 7 .any (fun w args => (Rows.valueBackSpec.pre enc Tryd.prog Tryd.f7 Rows.valueBackRow.domain false w args ∧ laidMetH Tryd.prog Rows.valueBackRow.laid w) ∧ sizedMet enc Tryd.prog Tryd.f7 (OpenSpec.ofChange Rows.valueBackSpec) false w args) (Rows.valueBackSpec.post enc Tryd.prog Tryd.f7 false true false false) := by
  refine returnsInHanded_of_change_and (C := Tryd.checked) (X := (fun w _ => laidMetH Tryd.prog Rows.valueBackRow.laid w)) (fun _ _ _ hh h => h.of_heap hh) own started (by kernel_rfl) Tryd.func7
    (ChangeSpec.witness_shaped (enc := enc) (C := Tryd.checked) (os := os) (X := (fun w _ => laidMetH Tryd.prog Rows.valueBackRow.laid w)) false (World.doorLaid Tryd.prog 400 os) #[.agg #[.int .i64 0, .int .i64 0, .string ByteArray.empty], .string ByteArray.empty] 8 rfl (World.shaped_of_RefB (by kernel_rfl) (by kernel_rfl)) (by kernel_rfl) (by kernel_rfl) (by kernel_rfl) (door_met os _)) ?_
  intro W base args ds gs before hval0 hW hcnd hsz0 hL _
  have hsz : (DataW.weightsEach Tryd.prog (Tryd.f7.params.toList ++ Rows.valueBackSpec.plain.varTypes Tryd.prog) (ds ++ gs)).all (· ≤ reachBytes) = true := hsz0
  have hval : ∀ (j : Nat) t v, Tryd.f7.params[j]? = some t → args[j]? = some v → Value.okWide Tryd.prog W .any base t v := hval0
  have hW' := hW
  obtain ⟨p, q, hA0, hV, rfl, hfz, hnd⟩ := hW
  have hA : DataW.TrodAll enc Tryd.prog W 0 (fun _ => true) true Tryd.f7.params.toList args.toList ds p := hA0
  rw [Tryd.params7] at hA hval hsz
  obtain ⟨v0, vs0, d0, ds0, p0, q0, hargs, rfl, rfl, h0, r0⟩ := trodAll_cons hA
  obtain ⟨v1, vs1, d1, ds1, p1, q1, rfl, rfl, rfl, h1, r1⟩ := trodAll_cons r0
  obtain ⟨rfl, rfl, rfl⟩ := trodAll_nil r1
  obtain rfl : args = #[v0, v1] := by cases args; simp_all
  obtain ⟨rfl, rfl⟩ := trodVars_none hV
  have k0 := h0
  have lt0 : ∀ x ∈ p0, x.block < W.heap.size := by obtain ⟨m, hm⟩ := k0; exact DataW.trod_lt m _ _ _ hm
  obtain ⟨cs0, rfl, _⟩ := okWide_struct Tryd.underlying23 (hval 0 23 v0 rfl rfl)
  obtain ⟨fuel0, hf0⟩ := h0
  obtain ⟨x0, S0, G0⟩ := fitT_ok (O := OX (NoX (W₀ := W)) [] []) (fun b => own_none) 20 23 ((.prod (.int .i64) (.prod (.int .i64) .str))) (by kernel_rfl) fuel0 _ _ hf0 (fun m hm => by have hq := weights_each hsz (j := 0) (t := 23) rfl rfl m hm; exact of_decide_eq_true hq)
  obtain ⟨x1, rfl, rfl, rfl, y1⟩ := open_string Tryd.underlying9 (hval 1 9 v1 rfl rfl) h1
  have G1 : Gd .str x1 := by
    have z := sized_string hsz (j := 1) (t := 9) rfl rfl
    rw [Array.length_toList] at z
    exact z
  obtain ⟨K, hk⟩ := pure x0 x1 G0 G1
  have ha : AV1sR (OX (NoX (W₀ := W)) [] []) W [] [.agg (inj ((.prod (.int .i64) (.prod (.int .i64) .str))) x0), .sc (.val (.string x1))] (#[.agg cs0, .string x1] : Array Value).toList := .cons (arg_agg S0) (.cons (.sc (.val _)) ⟨rfl, by simp⟩)
  refine (law_calls (good Tryd.prog sg (extok (tab_of hL) (syn_of hL).choose_spec.choose_spec (ran_of hL).choose_spec.choose_spec) mix num K) (f := 7) (t := (true : Bool)) (b := true) hk rfl (fun O w ρ vals σ v h hv => bool_of h hv) ha).mono fun e W' ⟨he, hd⟩ => ?_
  have bel : Below W.heap.size W W' := hd
  subst he
  exact ⟨_, rfl, _, _, _, [], _, [], hW', trodAll_mk1 (shut_bool Tryd.underlying4 _), (trodAll_cons_mk (Below.trod laidOut (by kernel_rfl) (of_decide_eq_true (by kernel_rfl)) k0 bel lt0) (trodAll_cons_mk (shut_string Tryd.underlying9 y1) trodAll_mk0)), rfl, bel.frame _, fun h => by cases h⟩
theorem over (pure : Pure) : Rows.valueBackRow.holds Tryd.pinned (OpenSpec.ofChange Rows.valueBackSpec) :=
  OpenClaim.holds_of_wide 7 Tryd.f7 rfl rfl rfl rfl rfl rfl rfl ⟨rfl, rfl, rfl, rfl, rfl⟩ rfl rfl rfl rfl rfl (by kernel_rfl) Tryd.func7 (by kernel_rfl)
    (of_decide_eq_true (by kernel_rfl)) (by unfold Func.isWrapper; first | (rw [if_pos (by decide +kernel)]; kernel_rfl) | (rw [if_neg (by decide +kernel)]; exact ⟨rfl, rfl⟩))
    (fun os started H enc _ => lifted pure os started H enc)
theorem proved (pure : Pure) : Rows.ValueBackSaid := over pure
theorem card (pure : Pure) : Rows.ValueBackCardSaid :=
  Claim7.holds_tied_plain_at .later [] [.data, .data, .data, .sentinel, .sentinel] true (true, "0c07123f308a968201183fd7117c883c7d7789a0b9d131a54359b9fd958c0658") true
    (proved pure) (fun _ h => by cases h) (by kernel_rfl) (fun _ h => by cases h) valueBack_row_tie rfl ⟨rfl, rfl⟩ (by kernel_rfl) rfl
    (fun f fn hf hfn => by
      obtain rfl : f = 7 := Option.some.inj ((show Tryd.prog.funcNamed "pleach/pleachlaw06.ValueBack" = some 7 by kernel_rfl).symm.trans hf) |>.symm
      obtain rfl : fn = Tryd.f7 := (Option.some.inj (Tryd.func7.symm.trans hfn)).symm
      refine ⟨by kernel_rfl, fun j t ht => ?_⟩
      rw [Tryd.params7] at ht
      have hm : t ∈ [23, 9] := by
        have := Array.mem_of_getElem? ht
        simpa using this
      simp only [List.mem_cons, List.mem_nil_iff, or_false] at hm
      rcases hm with rfl | rfl
      · exact (show Tryd.prog.wantsStandIn 23 = false by kernel_rfl)
      · exact (show Tryd.prog.wantsStandIn 9 = false by kernel_rfl))
    (by kernel_rfl)
end Go.Proofs.YthnhkaaodghpgaaDoor.AE.valueBack
end
