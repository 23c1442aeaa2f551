/- The evaluator of the program's form, its soundness, the functions of the given program as it evaluates them, and laws on these. Conditions: as each theorem says. -/
import Derived.Test.YthnhkaaodghpgaaDoorCValueParsesN2
import Derived.Test.YthnhkaaodghpgaaDoorProg
import Derived.Laws.BitsLemmas
import Derived.Test.YthnhkaaodghpgaaDoorRows
import Derived.WalkKit
import Derived.ProofKit
import Derived.OpenShut
import Derived.ShutString
import Derived.ChangeOld
import Derived.Below
import Derived.SizedLaws
import Derived.LaidMore
import Derived.Stop.Joined
import Derived.Stop.LaidErr
import Derived.Test.YthnhkaaodghpgaaDoorTie
import Derived.Test.YthnhkaaodghpgaaDoorCards
import Derived.SevenTiedAt
section
set_option linter.unusedVariables false
set_option maxRecDepth 100000
namespace Go.Proofs.YthnhkaaodghpgaaDoor.AE
open Go
abbrev TValue : Type := Int × Int × ByteArray
abbrev sValue : Sh := (.prod (.int .i64) (.prod (.int .i64) .str))
abbrev sScan : Sh := (.prod .str (.prod (.int .i64) (.int .i64)))
abbrev sScanx : Sh := (.prod .str (.prod (.int .i64) (.prod (.int .i64) .bool)))
def sgT : List (Nat × Sig) := [
  (3, { ps := [(.agg sValue)], vals := [.sc .bool] }),
  (4, { ps := [(.agg sValue), (.agg sValue), (.agg sValue)], vals := [.sc .bool] }),
  (5, { vals := [.sc .bool], excl := [(8, [2])] }),
  (6, { vals := [.sc .bool] }),
  (7, { ps := [(.agg sValue), .raw], vals := [.sc .bool] }),
  (8, { vals := [.sc .bool] }),
  (9, { ps := [(.agg sValue)], tup := true, vals := [.sc .str, .sc (.int .i64)] }),
  (10, { ps := [(.agg sValue)], vals := [.sc .bool] }),
  (11, { ps := [(.agg sValue)], vals := [.sc .str] }),
  (12, { ps := [(.agg sValue)], vals := [.sc (.int .i64)] }),
  (13, { ps := [(.agg sValue)], vals := [.sc .str] }),
  (14, { ps := [(.agg sValue)], vals := [.sc .str] }),
  (15, { ps := [(.agg sValue), (.agg sValue)], vals := [.sc .bool] }),
  (16, { ps := [(.agg sValue), (.agg sValue)], vals := [.sc (.int .i64)] }),
  (17, { tup := true, vals := [.agg sValue, .sc (.int .i64)] }),
  (18, { tup := true, vals := [.agg sValue, .sc (.int .i64)], excl := [(4, [0])] }),
  (19, { vals := [.ptr 62 sScanx] }),
  (20, { vals := [.agg sValue], blks := [.cells 0 sScanx] }),
  (21, { ps := [(.agg sScan)], tup := true, vals := [.agg sScan, .agg sValue], excl := [(13, [1, 2])] }),
  (22, { vals := [.sc (.int .i64)], blks := [.cells 0 sScanx] }),
  (23, { vals := [.sc (.int .i64)], blks := [.cells 0 sScanx] }),
  (24, { tup := true, vals := [.agg sValue, .sc (.int .i64)] }),
  (25, { tup := true, vals := [.agg sValue, .sc .bool] }),
  (26, { vals := [.sc .str] }),
  (27, { vals := [.sc .str] }),
  (28, { vals := [.sc .str] }),
  (29, { vals := [.sc (.int .u64)] }),
  (30, { vals := [.sc .str] }),
  (31, itoaSig),
  (32, { vals := [.sc .bool] }),
  (33, { vals := [.sc .str], excl := [(5, [0])] }),
  (34, { vals := [.sc .str] }),
  (35, { vals := [.sc .bool] }),
  (36, { vals := [.sc .str] }),
  (37, { ps := [(.sc (.list (.int .i64)))], vals := [.sc (.int .i64)] }),
  (38, { vals := [.sc (.int .i64)] }),
  (39, { vals := [.sc (.int .i64)] }),
  (40, { vals := [.sc (.int .i64)], blks := [.cells 0 sScanx], excl := [(1, [0])] }),
  (41, { ps := [(.agg sScan)], vals := [.agg sScan] }),
  (42, { vals := [.sc (.int .i64)], blks := [.cells 0 sScanx] }),
  (43, { vals := [.sc (.int .i64)], blks := [.cells 0 sScanx] }),
  (44, { vals := [.sc .str], blks := [.cells 0 sScanx] }),
  (45, { tup := true, blks := [.cells 0 sScanx] }),
  (46, { ps := [(.agg sScan)], tup := true, vals := [.agg sScan, .sc (.int .i64)], excl := [(4, [1])] }),
  (47, { ps := [(.agg sScan)], tup := true, vals := [.agg sScan, .sc (.int .i64)], excl := [(8, [1])] }),
  (48, { ps := [(.agg sScan), .raw], tup := true, vals := [.agg sScan, .sc .str] }),
  (49, { tup := true, vals := [.agg sValue, .sc .bool], excl := [(11, [0])] }),
  (50, { tup := true, vals := [.sc .str, .sc .bool] }),
  (51, { tup := true, vals := [.sc (.int .i64), .sc .bool] }),
  (52, { vals := [.sc .str] }),
  (53, { vals := [.sc .str] }),
  (54, { vals := [.own (.int .i64)] }),
  (56, contSig 57 badR),
  (58, { vals := [.sc .str] }),
  (59, { vals := [.sc .str] }),
  (60, { vals := [.sc .bool] }),
  (61, { vals := [.sc (.int .i64)] }),
  (62, { vals := [.sc .str], blks := [.cells 0 sScanx] }),
  (63, { tup := true, vals := [.sc (.int .i64), .sc (.int .i64), .sc .bool] }),
  (64, { tup := true, blks := [.cells 0 sScanx] }),
  (65, { vals := [.sc (.int .i64)], blks := [.cells 0 sScanx] }),
  (66, { ps := [(.agg sScan), .raw], tup := true, vals := [.agg sScan, .sc .str] }),
  (67, { tup := true, vals := [.sc (.int .u64), .sc (.int .i64), .sc .bool] }),
  (68, { vals := [.sc (.int .i64)] }),
  (69, { ps := [(.agg sScan), .raw], tup := true, vals := [.agg sScan, .sc (.int .i64)] }),
  (70, { vals := [.sc .bool] }),
  (71, { tup := true, vals := [.sc .str, .sc .bool], coer := [(4, (.own (.int .u8)))] }),
  (72, atoiSig),
  (73, { vals := [.sc (.int .i64)] }),
  (74, { vals := [.sc (.int .u64)] }),
  (77, { op := some opCompare }),
  (78, { tup := true, vals := [.sc (.int .u64), .sc (.int .i64), .sc .bool] }),
  (79, { vals := [.sc (.int .i64)] }),
  (80, { vals := [.sc .bool] }),
  (81, { vals := [.sc (.int .u8)] })]
abbrev sg : FuncId → Sig := sigOf sgT
noncomputable def F.value_Check (K : Nat) (a0 : TValue) : Option (Int) := evFn Tryd.prog sg K 12 [.agg [.val (.int .i64 a0.1), .val (.int .i64 a0.2.1), .val (.string a0.2.2)]] []
noncomputable def F.value_Check.B (a0 : TValue) : Option (Int) :=
    (bif (a0.1 == 1) then (bif (a0.2.1 == 0) then (bif (!(strEq a0.2.2 (⟨#[]⟩ : ByteArray))) then (some 2) else (some 0)) else (bif (a0.2.1 == 1) then (bif (!(strEq a0.2.2 (⟨#[]⟩ : ByteArray))) then (some 2) else (some 0)) else (some 2))) else (bif (a0.1 == 2) then (bif (!(strEq a0.2.2 (⟨#[]⟩ : ByteArray))) then (some 2) else (some 0)) else (bif (a0.1 == 3) then (bif (a0.2.1 == 0) then (bif (!(decide ((a0.2.2.size : Int) ≤ 64))) then (some 2) else (some 0)) else (some 2)) else (some 2))))
theorem F.value_Check.eq K a0 : F.value_Check (K + 1) a0 = F.value_Check.B a0 := by kernel_rfl
noncomputable def V.value_Check (a0 : TValue) := lim fun v => F.value_Check (v 0) a0
theorem V.value_Check.of a0 {r} (h : F.value_Check.B a0 = some r) : V.value_Check a0 = some r :=
  App.to (App.step 0 (fun v => F.value_Check.eq (v 0) a0) (by unfold F.value_Check.B; repeat' first | apply App.guard | apply App.cond | exact App.lim | exact App.val | exact App.no | apply App.meet | apply App.ite | refine App.bind ?_ fun _ => ?_)) h
noncomputable def F.varint_Zig (K : Nat) (a0 : Int) : Option (Int) := evFn Tryd.prog sg K 74 [.sc (.val (.int .i64 a0))] []
noncomputable def F.varint_Zig.B (a0 : Int) : Option (Int) :=
    (some (IntKind.wrap .u64 ((BitVec.ofInt 64 (IntKind.wrap .u64 ((IntKind.wrap .u64 a0) * 2 ^ 1)) ^^^ BitVec.ofInt 64 (IntKind.wrap .u64 (Int.fdiv a0 (2 ^ 63)))).toNat : Int)))
theorem F.varint_Zig.eq K a0 : F.varint_Zig (K + 1) a0 = F.varint_Zig.B a0 := by kernel_rfl
noncomputable def V.varint_Zig (a0 : Int) := lim fun v => F.varint_Zig (v 0) a0
theorem V.varint_Zig.of a0 {r} (h : F.varint_Zig.B a0 = some r) : V.varint_Zig a0 = some r :=
  App.to (App.step 0 (fun v => F.varint_Zig.eq (v 0) a0) (by unfold F.varint_Zig.B; repeat' first | apply App.guard | apply App.cond | exact App.lim | exact App.val | exact App.no | apply App.meet | apply App.ite | refine App.bind ?_ fun _ => ?_)) h
noncomputable def F.varint_Put (K : Nat) (a0 : Int) : Option (ByteArray) := evFn Tryd.prog sg K 53 [.sc (.val (.int .u64 a0))] []
noncomputable def F.varint_Put.at (K : Nat) (p ns : List Nat) (s : St) : Option (ByteArray) := atFn Tryd.prog sg K 53 0 p ns s
noncomputable def F.varint_Put.in (K : Nat) (H : List Nat → List Nat → St → Option (ByteArray)) (p ns : List Nat) (s : St) : Option (ByteArray) := inFn Tryd.prog sg K 53 0 [] H p ns s
theorem F.varint_Put.in_eq K p ns s : F.varint_Put.at K p ns s = F.varint_Put.in K (F.varint_Put.at K) p ns s := atFn_eq (P := Tryd.prog) (sg := sg) (K := K) (f := 53) (m := 0) [] p ns s
theorem F.varint_Put.in_main K a0 : F.varint_Put (K + 1) a0 = F.varint_Put.in K (F.varint_Put.at K) [] [] ⟨slots [.sc (.val (.int .u64 a0))] 0, []⟩ := evFn_eq (P := Tryd.prog) (sg := sg) (K := K) (f := 53) (args := [.sc (.val (.int .u64 a0))]) (σ := []) [] (by kernel_rfl)
def F.varint_Put.l11100.st (a0 : Int) (x0 : Int) (x1 : Int) (x2 : List Int) : St := ⟨[(0, .one (.sc (.val (.int .u64 x0)))), (3, .one (.sc (.eref 0 0 0))), (4, vI x1)], [.elems (.int .u8) x2]⟩
noncomputable def F.varint_Put.l11100 (K n0 : Nat) (a0 : Int) (x0 : Int) (x1 : Int) (x2 : List Int) := F.varint_Put.at K [1, 1, 1, 0, 0] [n0] (F.varint_Put.l11100.st a0 x0 x1 x2)
noncomputable def F.varint_Put.l11100.B (c0 : (Int) → (Int) → (Int) → (List Int) → Option (ByteArray)) (a0 : Int) (x0 : Int) (x1 : Int) (x2 : List Int) : Option (ByteArray) :=
    (bif (decide (x0 ≥ 128)) then (guardK (decide (0 ≤ x1) && decide (x1 < 10) && decide (x1 < (x2.length : Int))) (c0 a0 (Int.fdiv x0 (2 ^ 7)) (w64 (x1 + 1)) (x2.set x1.toNat (IntKind.wrap .u8 ((BitVec.ofInt 8 (IntKind.wrap .u8 x0) ||| BitVec.ofInt 8 128).toNat : Int))))) else (guardK (decide (0 ≤ x1) && decide (x1 < 10) && decide (x1 < (x2.length : Int))) (guardK (decide (0 ≤ (w64 (x1 + 1))) && decide ((w64 (x1 + 1)) ≤ 10) && decide (10 = (x2.set x1.toNat (IntKind.wrap .u8 x0)).length)) (some (bytesOf (((x2.set x1.toNat (IntKind.wrap .u8 x0)).take ((w64 (x1 + 1)).toNat)).drop 0))))))
theorem F.varint_Put.l11100.eq K n0 a0 x0 x1 x2 : F.varint_Put.l11100 K (n0 + 1) a0 x0 x1 x2 = F.varint_Put.l11100.B (F.varint_Put.l11100 K n0) a0 x0 x1 x2 := (F.varint_Put.in_eq K [1, 1, 1, 0, 0] [n0 + 1] (F.varint_Put.l11100.st a0 x0 x1 x2)).trans ((show ∀ H, F.varint_Put.in K H [1, 1, 1, 0, 0] [n0 + 1] (F.varint_Put.l11100.st a0 x0 x1 x2) = F.varint_Put.l11100.B (fun a0 x0 x1 x2 => H [1, 1, 1, 0, 0] [n0] (F.varint_Put.l11100.st a0 x0 x1 x2)) a0 x0 x1 x2 from by intro H; kernel_rfl) (F.varint_Put.at K))
noncomputable def F.varint_Put.B (c0 : (Int) → (Int) → (Int) → (List Int) → Option (ByteArray)) (a0 : Int) : Option (ByteArray) :=
    (c0 a0 a0 0 (repl 10 0))
theorem F.varint_Put.eq K a0 : F.varint_Put (K + 1) a0 = F.varint_Put.B (F.varint_Put.l11100 K K) a0 := (F.varint_Put.in_main K a0).trans ((show ∀ H, F.varint_Put.in K H [] [] ⟨slots [.sc (.val (.int .u64 a0))] 0, []⟩ = F.varint_Put.B (fun a0 x0 x1 x2 => H [1, 1, 1, 0, 0] [K] (F.varint_Put.l11100.st a0 x0 x1 x2)) a0 from by intro H; kernel_rfl) (F.varint_Put.at K))
noncomputable def V.varint_Put.l11100 (a0 : Int) (x0 : Int) (x1 : Int) (x2 : List Int) := lim fun v => F.varint_Put.l11100 (v 0) (v 1) a0 x0 x1 x2
noncomputable def V.varint_Put (a0 : Int) := lim fun v => F.varint_Put (v 0) a0
theorem V.varint_Put.l11100.of a0 x0 x1 x2 {r} (h : F.varint_Put.l11100.B V.varint_Put.l11100 a0 x0 x1 x2 = some r) : V.varint_Put.l11100 a0 x0 x1 x2 = some r :=
  App.to (App.step 1 (fun v => F.varint_Put.l11100.eq (v 0) (v 1) a0 x0 x1 x2) (by unfold F.varint_Put.l11100.B; repeat' first | apply App.guard | apply App.cond | exact App.lim | exact App.val | exact App.no | apply App.meet | apply App.ite | refine App.bind ?_ fun _ => ?_)) h
theorem V.varint_Put.of a0 {r} (h : F.varint_Put.B V.varint_Put.l11100 a0 = some r) : V.varint_Put a0 = some r :=
  App.to (App.step 0 (fun v => F.varint_Put.eq (v 0) a0) (by unfold F.varint_Put.B; repeat' first | apply App.guard | apply App.cond | exact App.lim | exact (App.enter 1 App.lim) | exact App.val | exact App.no | apply App.meet | apply App.ite | refine App.bind ?_ fun _ => ?_)) h
noncomputable def F.varint_Int (K : Nat) (a0 : Int) : Option (ByteArray) := evFn Tryd.prog sg K 52 [.sc (.val (.int .i64 a0))] []
noncomputable def F.varint_Int.B (c0 : (Int) → Option (Int)) (c1 : (Int) → Option (ByteArray)) (a0 : Int) : Option (ByteArray) :=
    ((c0 a0).bind fun t0 => ((c1 t0).bind fun t1 => (some t1)))
theorem F.varint_Int.eq K a0 : F.varint_Int (K + 1) a0 = F.varint_Int.B (F.varint_Zig K) (F.varint_Put K) a0 := by kernel_rfl
noncomputable def V.varint_Int (a0 : Int) := lim fun v => F.varint_Int (v 0) a0
theorem V.varint_Int.of a0 {r} (h : F.varint_Int.B V.varint_Zig V.varint_Put a0 = some r) : V.varint_Int a0 = some r :=
  App.to (App.step 0 (fun v => F.varint_Int.eq (v 0) a0) (by unfold F.varint_Int.B; repeat' first | apply App.guard | apply App.cond | exact App.lim | exact App.val | exact App.no | apply App.meet | apply App.ite | refine App.bind ?_ fun _ => ?_)) h
noncomputable def F.scan_PutInt (K : Nat) (a0 : Int) : Option (ByteArray) := evFn Tryd.prog sg K 26 [.sc (.val (.int .i64 a0))] []
noncomputable def F.scan_PutInt.B (c0 : (Int) → Option (ByteArray)) (a0 : Int) : Option (ByteArray) :=
    ((c0 a0).bind fun t0 => (some t0))
theorem F.scan_PutInt.eq K a0 : F.scan_PutInt (K + 1) a0 = F.scan_PutInt.B (F.varint_Int K) a0 := by kernel_rfl
noncomputable def V.scan_PutInt (a0 : Int) := lim fun v => F.scan_PutInt (v 0) a0
theorem V.scan_PutInt.of a0 {r} (h : F.scan_PutInt.B V.varint_Int a0 = some r) : V.scan_PutInt a0 = some r :=
  App.to (App.step 0 (fun v => F.scan_PutInt.eq (v 0) a0) (by unfold F.scan_PutInt.B; repeat' first | apply App.guard | apply App.cond | exact App.lim | exact App.val | exact App.no | apply App.meet | apply App.ite | refine App.bind ?_ fun _ => ?_)) h
noncomputable def F.scan_PutText (K : Nat) (a0 : ByteArray) : Option (ByteArray) := evFn Tryd.prog sg K 27 [.sc (.val (.string a0))] []
noncomputable def F.scan_PutText.B (c0 : (Int) → Option (ByteArray)) (a0 : ByteArray) : Option (ByteArray) :=
    ((c0 (IntKind.wrap .u64 (a0.size : Int))).bind fun t0 => (guardK (decide (t0.size + a0.size ≤ i64max)) (some (t0 ++ a0))))
theorem F.scan_PutText.eq K a0 : F.scan_PutText (K + 1) a0 = F.scan_PutText.B (F.varint_Put K) a0 := by kernel_rfl
noncomputable def V.scan_PutText (a0 : ByteArray) := lim fun v => F.scan_PutText (v 0) a0
theorem V.scan_PutText.of a0 {r} (h : F.scan_PutText.B V.varint_Put a0 = some r) : V.scan_PutText a0 = some r :=
  App.to (App.step 0 (fun v => F.scan_PutText.eq (v 0) a0) (by unfold F.scan_PutText.B; repeat' first | apply App.guard | apply App.cond | exact App.lim | exact App.val | exact App.no | apply App.meet | apply App.ite | refine App.bind ?_ fun _ => ?_)) h
noncomputable def F.value_Put (K : Nat) (a0 : TValue) : Option (ByteArray × Int) := evFn Tryd.prog sg K 9 [.agg [.val (.int .i64 a0.1), .val (.int .i64 a0.2.1), .val (.string a0.2.2)]] []
noncomputable def F.value_Put.B (c0 : (TValue) → Option (Int)) (c1 : (Int) → Option (ByteArray)) (c2 : (ByteArray) → Option (ByteArray)) (a0 : TValue) : Option (ByteArray × Int) :=
    ((c0 (a0.1, a0.2.1, a0.2.2)).bind fun t0 => (bif (t0 != 0) then (some ((⟨#[]⟩ : ByteArray), t0)) else (bif (a0.1 == 1) then (guardK (decide ((bytesOf ([(IntKind.wrap .u8 a0.1)])).size + (bytesOf ([(IntKind.wrap .u8 a0.2.1)])).size ≤ i64max)) (some (((bytesOf ([(IntKind.wrap .u8 a0.1)])) ++ (bytesOf ([(IntKind.wrap .u8 a0.2.1)]))), 0))) else (bif (a0.1 == 2) then ((c1 a0.2.1).bind fun t1 => (guardK (decide ((bytesOf ([(IntKind.wrap .u8 a0.1)])).size + t1.size ≤ i64max)) (some (((bytesOf ([(IntKind.wrap .u8 a0.1)])) ++ t1), 0)))) else ((c2 a0.2.2).bind fun t2 => (guardK (decide ((bytesOf ([(IntKind.wrap .u8 a0.1)])).size + t2.size ≤ i64max)) (some (((bytesOf ([(IntKind.wrap .u8 a0.1)])) ++ t2), 0))))))))
theorem F.value_Put.eq K a0 : F.value_Put (K + 1) a0 = F.value_Put.B (F.value_Check K) (F.scan_PutInt K) (F.scan_PutText K) a0 := by kernel_rfl
noncomputable def V.value_Put (a0 : TValue) := lim fun v => F.value_Put (v 0) a0
theorem V.value_Put.of a0 {r} (h : F.value_Put.B V.value_Check V.scan_PutInt V.scan_PutText a0 = some r) : V.value_Put a0 = some r :=
  App.to (App.step 0 (fun v => F.value_Put.eq (v 0) a0) (by unfold F.value_Put.B; repeat' first | apply App.guard | apply App.cond | exact App.lim | exact App.val | exact App.no | apply App.meet | apply App.ite | refine App.bind ?_ fun _ => ?_)) h
noncomputable def F.strconv_Itoa (K : Nat) (a0 : Int) : Option (ByteArray) := evFn Tryd.prog sg K 31 [.sc (.val (.int .i64 a0))] []
noncomputable def F.strconv_Itoa.B (a0 : Int) : Option (ByteArray) :=
    (itoaB a0)
theorem F.strconv_Itoa.eq K a0 : F.strconv_Itoa (K + 1) a0 = F.strconv_Itoa.B a0 := by kernel_rfl
noncomputable def V.strconv_Itoa (a0 : Int) := lim fun v => F.strconv_Itoa (v 0) a0
theorem V.strconv_Itoa.of a0 {r} (h : F.strconv_Itoa.B a0 = some r) : V.strconv_Itoa a0 = some r :=
  App.to (App.step 0 (fun v => F.strconv_Itoa.eq (v 0) a0) App.const) h
noncomputable def F.strings_ContainsFunc_by_value_plain_1 (K : Nat) (a0 : ByteArray) : Option (Bool) := evFn Tryd.prog sg K 56 [.sc (.val (.string a0)), .sc (.fn 57 [])] []
noncomputable def F.strings_ContainsFunc_by_value_plain_1.B (a0 : ByteArray) : Option (Bool) :=
    (some (hasR badR a0))
theorem F.strings_ContainsFunc_by_value_plain_1.eq K a0 : F.strings_ContainsFunc_by_value_plain_1 (K + 1) a0 = F.strings_ContainsFunc_by_value_plain_1.B a0 := by kernel_rfl
noncomputable def V.strings_ContainsFunc_by_value_plain_1 (a0 : ByteArray) := lim fun v => F.strings_ContainsFunc_by_value_plain_1 (v 0) a0
theorem V.strings_ContainsFunc_by_value_plain_1.of a0 {r} (h : F.strings_ContainsFunc_by_value_plain_1.B a0 = some r) : V.strings_ContainsFunc_by_value_plain_1 a0 = some r :=
  App.to (App.step 0 (fun v => F.strings_ContainsFunc_by_value_plain_1.eq (v 0) a0) App.const) h
noncomputable def F.value_plain (K : Nat) (a0 : ByteArray) : Option (Bool) := evFn Tryd.prog sg K 32 [.sc (.val (.string a0))] []
noncomputable def F.value_plain.B (c0 : (ByteArray) → Option (Bool)) (a0 : ByteArray) : Option (Bool) :=
    ((c0 a0).bind fun t0 => (some (!t0)))
theorem F.value_plain.eq K a0 : F.value_plain (K + 1) a0 = F.value_plain.B (F.strings_ContainsFunc_by_value_plain_1 K) a0 := by kernel_rfl
noncomputable def V.value_plain (a0 : ByteArray) := lim fun v => F.value_plain (v 0) a0
theorem V.value_plain.of a0 {r} (h : F.value_plain.B V.strings_ContainsFunc_by_value_plain_1 a0 = some r) : V.value_plain a0 = some r :=
  App.to (App.step 0 (fun v => F.value_plain.eq (v 0) a0) (by unfold F.value_plain.B; repeat' first | apply App.guard | apply App.cond | exact App.lim | exact App.val | exact App.no | apply App.meet | apply App.ite | refine App.bind ?_ fun _ => ?_)) h
noncomputable def F.sha_Hex (K : Nat) (a0 : ByteArray) : Option (ByteArray) := evFn Tryd.prog sg K 33 [.sc (.val (.string a0))] []
noncomputable def F.sha_Hex.at (K : Nat) (p ns : List Nat) (s : St) : Option (ByteArray) := atFn Tryd.prog sg K 33 0 p ns s
noncomputable def F.sha_Hex.in (K : Nat) (H : List Nat → List Nat → St → Option (ByteArray)) (p ns : List Nat) (s : St) : Option (ByteArray) := inFn Tryd.prog sg K 33 0 [] H p ns s
theorem F.sha_Hex.in_eq K p ns s : F.sha_Hex.at K p ns s = F.sha_Hex.in K (F.sha_Hex.at K) p ns s := atFn_eq (P := Tryd.prog) (sg := sg) (K := K) (f := 33) (m := 0) [] p ns s
theorem F.sha_Hex.in_main K a0 : F.sha_Hex (K + 1) a0 = F.sha_Hex.in K (F.sha_Hex.at K) [] [] ⟨slots [.sc (.val (.string a0))] 0, []⟩ := evFn_eq (P := Tryd.prog) (sg := sg) (K := K) (f := 33) (args := [.sc (.val (.string a0))]) (σ := []) [] (by kernel_rfl)
def F.sha_Hex.l11010.st (a0 : ByteArray) (x0 : Int) (x1 : List Int) : St := ⟨[(0, vS a0), (3, .one (.sc (.own 0 none))), (10, vI (a0.size : Int)), (11, vI x0)], [.elems (.int .u8) x1]⟩
noncomputable def F.sha_Hex.l11010 (K n0 : Nat) (a0 : ByteArray) (x0 : Int) (x1 : List Int) := F.sha_Hex.at K [1, 1, 0, 1, 0] [n0] (F.sha_Hex.l11010.st a0 x0 x1)
noncomputable def F.sha_Hex.l11010.B (c0 : (ByteArray) → (Int) → (List Int) → Option (ByteArray)) (a0 : ByteArray) (x0 : Int) (x1 : List Int) : Option (ByteArray) :=
    (bif (decide (x0 < (a0.size : Int))) then (guardK (decide (0 ≤ x0) && decide (x0 < (a0.size : Int))) (guardK (decide (0 ≤ (Int.fdiv (byteAt a0 x0) (2 ^ 4))) && decide ((Int.fdiv (byteAt a0 x0) (2 ^ 4)) < ((⟨#[48, 49, 50, 51, 52, 53, 54, 55, 56, 57, 97, 98, 99, 100, 101, 102]⟩ : ByteArray).size : Int))) (guardK (decide (0 ≤ x0) && decide (x0 < (a0.size : Int))) (guardK (decide (0 ≤ (IntKind.wrap .u8 ((BitVec.ofInt 8 (byteAt a0 x0) &&& BitVec.ofInt 8 15).toNat : Int))) && decide ((IntKind.wrap .u8 ((BitVec.ofInt 8 (byteAt a0 x0) &&& BitVec.ofInt 8 15).toNat : Int)) < ((⟨#[48, 49, 50, 51, 52, 53, 54, 55, 56, 57, 97, 98, 99, 100, 101, 102]⟩ : ByteArray).size : Int))) (guardK (decide (x1.length + ([(byteAt (⟨#[48, 49, 50, 51, 52, 53, 54, 55, 56, 57, 97, 98, 99, 100, 101, 102]⟩ : ByteArray) (Int.fdiv (byteAt a0 x0) (2 ^ 4))), (byteAt (⟨#[48, 49, 50, 51, 52, 53, 54, 55, 56, 57, 97, 98, 99, 100, 101, 102]⟩ : ByteArray) (IntKind.wrap .u8 ((BitVec.ofInt 8 (byteAt a0 x0) &&& BitVec.ofInt 8 15).toNat : Int)))]).length ≤ nmax)) (c0 a0 (w64 (x0 + 1)) (x1 ++ [(byteAt (⟨#[48, 49, 50, 51, 52, 53, 54, 55, 56, 57, 97, 98, 99, 100, 101, 102]⟩ : ByteArray) (Int.fdiv (byteAt a0 x0) (2 ^ 4))), (byteAt (⟨#[48, 49, 50, 51, 52, 53, 54, 55, 56, 57, 97, 98, 99, 100, 101, 102]⟩ : ByteArray) (IntKind.wrap .u8 ((BitVec.ofInt 8 (byteAt a0 x0) &&& BitVec.ofInt 8 15).toNat : Int)))]))))))) else (some (bytesOf x1)))
theorem F.sha_Hex.l11010.eq K n0 a0 x0 x1 : F.sha_Hex.l11010 K (n0 + 1) a0 x0 x1 = F.sha_Hex.l11010.B (F.sha_Hex.l11010 K n0) a0 x0 x1 := (F.sha_Hex.in_eq K [1, 1, 0, 1, 0] [n0 + 1] (F.sha_Hex.l11010.st a0 x0 x1)).trans ((show ∀ H, F.sha_Hex.in K H [1, 1, 0, 1, 0] [n0 + 1] (F.sha_Hex.l11010.st a0 x0 x1) = F.sha_Hex.l11010.B (fun a0 x0 x1 => H [1, 1, 0, 1, 0] [n0] (F.sha_Hex.l11010.st a0 x0 x1)) a0 x0 x1 from by intro H; kernel_rfl) (F.sha_Hex.at K))
noncomputable def F.sha_Hex.B (c0 : (ByteArray) → (Int) → (List Int) → Option (ByteArray)) (a0 : ByteArray) : Option (ByteArray) :=
    (guardK (decide (0 ≤ (w64 (2 * (a0.size : Int)))) && decide ((w64 (2 * (a0.size : Int))) ≤ 17179869184)) (c0 a0 0 ([])))
theorem F.sha_Hex.eq K a0 : F.sha_Hex (K + 1) a0 = F.sha_Hex.B (F.sha_Hex.l11010 K K) a0 := (F.sha_Hex.in_main K a0).trans ((show ∀ H, F.sha_Hex.in K H [] [] ⟨slots [.sc (.val (.string a0))] 0, []⟩ = F.sha_Hex.B (fun a0 x0 x1 => H [1, 1, 0, 1, 0] [K] (F.sha_Hex.l11010.st a0 x0 x1)) a0 from by intro H; kernel_rfl) (F.sha_Hex.at K))
noncomputable def V.sha_Hex.l11010 (a0 : ByteArray) (x0 : Int) (x1 : List Int) := lim fun v => F.sha_Hex.l11010 (v 0) (v 1) a0 x0 x1
noncomputable def V.sha_Hex (a0 : ByteArray) := lim fun v => F.sha_Hex (v 0) a0
theorem V.sha_Hex.l11010.of a0 x0 x1 {r} (h : F.sha_Hex.l11010.B V.sha_Hex.l11010 a0 x0 x1 = some r) : V.sha_Hex.l11010 a0 x0 x1 = some r :=
  App.to (App.step 1 (fun v => F.sha_Hex.l11010.eq (v 0) (v 1) a0 x0 x1) (by unfold F.sha_Hex.l11010.B; repeat' first | apply App.guard | apply App.cond | exact App.lim | exact App.val | exact App.no | apply App.meet | apply App.ite | refine App.bind ?_ fun _ => ?_)) h
theorem V.sha_Hex.of a0 {r} (h : F.sha_Hex.B V.sha_Hex.l11010 a0 = some r) : V.sha_Hex a0 = some r :=
  App.to (App.step 0 (fun v => F.sha_Hex.eq (v 0) a0) (by unfold F.sha_Hex.B; repeat' first | apply App.guard | apply App.cond | exact App.lim | exact (App.enter 1 App.lim) | exact App.val | exact App.no | apply App.meet | apply App.ite | refine App.bind ?_ fun _ => ?_)) h
noncomputable def F.value_Show (K : Nat) (a0 : TValue) : Option (ByteArray) := evFn Tryd.prog sg K 13 [.agg [.val (.int .i64 a0.1), .val (.int .i64 a0.2.1), .val (.string a0.2.2)]] []
noncomputable def F.value_Show.B (c0 : (TValue) → Option (Int)) (c1 : (Int) → Option (ByteArray)) (c2 : (ByteArray) → Option (Bool)) (c3 : (ByteArray) → Option (ByteArray)) (a0 : TValue) : Option (ByteArray) :=
    ((c0 (a0.1, a0.2.1, a0.2.2)).bind fun t0 => (bif (t0 != 0) then (some (⟨#[]⟩ : ByteArray)) else (bif (a0.1 == 1) then (bif (a0.2.1 == 1) then (some (⟨#[116, 114, 117, 101]⟩ : ByteArray)) else (bif (a0.1 == 1) then (some (⟨#[102, 97, 108, 115, 101]⟩ : ByteArray)) else (bif (a0.1 == 2) then ((c1 a0.2.1).bind fun t1 => (some t1)) else ((c2 a0.2.2).bind fun t2 => (bif t2 then (guardK (decide ((⟨#[39]⟩ : ByteArray).size + a0.2.2.size ≤ i64max)) (some ((⟨#[39]⟩ : ByteArray) ++ a0.2.2))) else ((c3 a0.2.2).bind fun t3 => (guardK (decide ((⟨#[35]⟩ : ByteArray).size + t3.size ≤ i64max)) (some ((⟨#[35]⟩ : ByteArray) ++ t3))))))))) else (bif (a0.1 == 1) then (some (⟨#[102, 97, 108, 115, 101]⟩ : ByteArray)) else (bif (a0.1 == 2) then ((c1 a0.2.1).bind fun t4 => (some t4)) else ((c2 a0.2.2).bind fun t5 => (bif t5 then (guardK (decide ((⟨#[39]⟩ : ByteArray).size + a0.2.2.size ≤ i64max)) (some ((⟨#[39]⟩ : ByteArray) ++ a0.2.2))) else ((c3 a0.2.2).bind fun t6 => (guardK (decide ((⟨#[35]⟩ : ByteArray).size + t6.size ≤ i64max)) (some ((⟨#[35]⟩ : ByteArray) ++ t6)))))))))))
theorem F.value_Show.eq K a0 : F.value_Show (K + 1) a0 = F.value_Show.B (F.value_Check K) (F.strconv_Itoa K) (F.value_plain K) (F.sha_Hex K) a0 := by kernel_rfl
noncomputable def V.value_Show (a0 : TValue) := lim fun v => F.value_Show (v 0) a0
theorem V.value_Show.of a0 {r} (h : F.value_Show.B V.value_Check V.strconv_Itoa V.value_plain V.sha_Hex a0 = some r) : V.value_Show a0 = some r :=
  App.to (App.step 0 (fun v => F.value_Show.eq (v 0) a0) (by unfold F.value_Show.B; repeat' first | apply App.guard | apply App.cond | exact App.lim | exact App.val | exact App.no | apply App.meet | apply App.ite | refine App.bind ?_ fun _ => ?_)) h
noncomputable def F.pleachlaw06_awake (K : Nat) : Option (Bool) := evFn Tryd.prog sg K 8 [] []
noncomputable def F.pleachlaw06_awake.B (c0 : (TValue) → Option (ByteArray × Int)) (c1 : (TValue) → Option (ByteArray)) : Option (Bool) :=
    ((c0 (2, (-1), (⟨#[]⟩ : ByteArray))).bind fun t0 => (bif (strEq t0.1 (⟨#[2, 1]⟩ : ByteArray)) then (bif (t0.2 == 0) then ((c1 (3, 0, (⟨#[97, 32, 98]⟩ : ByteArray))).bind fun t1 => (some (strEq t1 (⟨#[35, 54, 49, 50, 48, 54, 50]⟩ : ByteArray)))) else (some false)) else (some false)))
theorem F.pleachlaw06_awake.eq K : F.pleachlaw06_awake (K + 1) = F.pleachlaw06_awake.B (F.value_Put K) (F.value_Show K) := by kernel_rfl
noncomputable def V.pleachlaw06_awake := lim fun v => F.pleachlaw06_awake (v 0)
theorem V.pleachlaw06_awake.of {r} (h : F.pleachlaw06_awake.B V.value_Put V.value_Show = some r) : V.pleachlaw06_awake = some r :=
  App.to (App.step 0 (fun v => F.pleachlaw06_awake.eq (v 0)) (by unfold F.pleachlaw06_awake.B; repeat' first | apply App.guard | apply App.cond | exact App.lim | exact App.val | exact App.no | apply App.meet | apply App.ite | refine App.bind ?_ fun _ => ?_)) h
noncomputable def F.pleachref06_Is (K : Nat) (a0 : TValue) : Option (Bool) := evFn Tryd.prog sg K 10 [.agg [.val (.int .i64 a0.1), .val (.int .i64 a0.2.1), .val (.string a0.2.2)]] []
noncomputable def F.pleachref06_Is.B (a0 : TValue) : Option (Bool) :=
    (bif (a0.1 == 1) then (bif (decide (a0.2.1 ≥ 0)) then (bif (decide (a0.2.1 ≤ 1)) then (some (strEq a0.2.2 (⟨#[]⟩ : ByteArray))) else (some false)) else (some false)) else (bif (a0.1 == 2) then (some (strEq a0.2.2 (⟨#[]⟩ : ByteArray))) else (bif (a0.1 == 3) then (bif (a0.2.1 == 0) then (some (decide ((a0.2.2.size : Int) ≤ 64))) else (some false)) else (some false))))
theorem F.pleachref06_Is.eq K a0 : F.pleachref06_Is (K + 1) a0 = F.pleachref06_Is.B a0 := by kernel_rfl
noncomputable def V.pleachref06_Is (a0 : TValue) := lim fun v => F.pleachref06_Is (v 0) a0
theorem V.pleachref06_Is.of a0 {r} (h : F.pleachref06_Is.B a0 = some r) : V.pleachref06_Is a0 = some r :=
  App.to (App.step 0 (fun v => F.pleachref06_Is.eq (v 0) a0) (by unfold F.pleachref06_Is.B; repeat' first | apply App.guard | apply App.cond | exact App.lim | exact App.val | exact App.no | apply App.meet | apply App.ite | refine App.bind ?_ fun _ => ?_)) h
noncomputable def F.pleachref06_tail (K : Nat) (a0 : Int) : Option (ByteArray) := evFn Tryd.prog sg K 59 [.sc (.val (.int .i64 a0))] []
noncomputable def F.pleachref06_tail.B (a0 : Int) : Option (ByteArray) :=
    (some (bytesOf ([(IntKind.wrap .u8 (w64 (48 + a0)))])))
theorem F.pleachref06_tail.eq K a0 : F.pleachref06_tail (K + 1) a0 = F.pleachref06_tail.B a0 := by kernel_rfl
noncomputable def V.pleachref06_tail (a0 : Int) := lim fun v => F.pleachref06_tail (v 0) a0
theorem V.pleachref06_tail.of a0 {r} (h : F.pleachref06_tail.B a0 = some r) : V.pleachref06_tail a0 = some r :=
  App.to (App.step 0 (fun v => F.pleachref06_tail.eq (v 0) a0) (by unfold F.pleachref06_tail.B; repeat' first | apply App.guard | apply App.cond | exact App.lim | exact App.val | exact App.no | apply App.meet | apply App.ite | refine App.bind ?_ fun _ => ?_)) h
noncomputable def F.pleachref06_tens (K : Nat) (a0 : Int) : Option (ByteArray) := evFn Tryd.prog sg K 58 [.sc (.val (.int .u64 a0))] []
noncomputable def F.pleachref06_tens.at (K : Nat) (p ns : List Nat) (s : St) : Option (ByteArray) := atFn Tryd.prog sg K 58 0 p ns s
noncomputable def F.pleachref06_tens.in (K : Nat) (H : List Nat → List Nat → St → Option (ByteArray)) (p ns : List Nat) (s : St) : Option (ByteArray) := inFn Tryd.prog sg K 58 0 [] H p ns s
theorem F.pleachref06_tens.in_eq K p ns s : F.pleachref06_tens.at K p ns s = F.pleachref06_tens.in K (F.pleachref06_tens.at K) p ns s := atFn_eq (P := Tryd.prog) (sg := sg) (K := K) (f := 58) (m := 0) [] p ns s
theorem F.pleachref06_tens.in_main K a0 : F.pleachref06_tens (K + 1) a0 = F.pleachref06_tens.in K (F.pleachref06_tens.at K) [] [] ⟨slots [.sc (.val (.int .u64 a0))] 0, []⟩ := evFn_eq (P := Tryd.prog) (sg := sg) (K := K) (f := 58) (args := [.sc (.val (.int .u64 a0))]) (σ := []) [] (by kernel_rfl)
def F.pleachref06_tens.l1100.st (a0 : Int) (x0 : Int) (x1 : ByteArray) : St := ⟨[(0, .one (.sc (.val (.int .u64 x0)))), (3, vS x1)], []⟩
noncomputable def F.pleachref06_tens.l1100 (K n0 : Nat) (a0 : Int) (x0 : Int) (x1 : ByteArray) := F.pleachref06_tens.at K [1, 1, 0, 0] [n0] (F.pleachref06_tens.l1100.st a0 x0 x1)
noncomputable def F.pleachref06_tens.l1100.B (c0 : (Int) → Option (ByteArray)) (c1 : (Int) → (Int) → (ByteArray) → Option (ByteArray)) (a0 : Int) (x0 : Int) (x1 : ByteArray) : Option (ByteArray) :=
    (bif (decide (x0 > 0)) then ((c0 (w64 (Int.tmod x0 10))).bind fun t0 => (guardK (decide (t0.size + x1.size ≤ i64max)) (c1 a0 (IntKind.wrap .u64 (Int.tdiv x0 10)) (t0 ++ x1)))) else (some x1))
theorem F.pleachref06_tens.l1100.eq K n0 a0 x0 x1 : F.pleachref06_tens.l1100 K (n0 + 1) a0 x0 x1 = F.pleachref06_tens.l1100.B (F.pleachref06_tail K) (F.pleachref06_tens.l1100 K n0) a0 x0 x1 := (F.pleachref06_tens.in_eq K [1, 1, 0, 0] [n0 + 1] (F.pleachref06_tens.l1100.st a0 x0 x1)).trans ((show ∀ H, F.pleachref06_tens.in K H [1, 1, 0, 0] [n0 + 1] (F.pleachref06_tens.l1100.st a0 x0 x1) = F.pleachref06_tens.l1100.B (F.pleachref06_tail K) (fun a0 x0 x1 => H [1, 1, 0, 0] [n0] (F.pleachref06_tens.l1100.st a0 x0 x1)) a0 x0 x1 from by intro H; kernel_rfl) (F.pleachref06_tens.at K))
noncomputable def F.pleachref06_tens.B (c0 : (Int) → (Int) → (ByteArray) → Option (ByteArray)) (a0 : Int) : Option (ByteArray) :=
    (c0 a0 a0 (⟨#[]⟩ : ByteArray))
theorem F.pleachref06_tens.eq K a0 : F.pleachref06_tens (K + 1) a0 = F.pleachref06_tens.B (F.pleachref06_tens.l1100 K K) a0 := (F.pleachref06_tens.in_main K a0).trans ((show ∀ H, F.pleachref06_tens.in K H [] [] ⟨slots [.sc (.val (.int .u64 a0))] 0, []⟩ = F.pleachref06_tens.B (fun a0 x0 x1 => H [1, 1, 0, 0] [K] (F.pleachref06_tens.l1100.st a0 x0 x1)) a0 from by intro H; kernel_rfl) (F.pleachref06_tens.at K))
noncomputable def V.pleachref06_tens.l1100 (a0 : Int) (x0 : Int) (x1 : ByteArray) := lim fun v => F.pleachref06_tens.l1100 (v 0) (v 1) a0 x0 x1
noncomputable def V.pleachref06_tens (a0 : Int) := lim fun v => F.pleachref06_tens (v 0) a0
theorem V.pleachref06_tens.l1100.of a0 x0 x1 {r} (h : F.pleachref06_tens.l1100.B V.pleachref06_tail V.pleachref06_tens.l1100 a0 x0 x1 = some r) : V.pleachref06_tens.l1100 a0 x0 x1 = some r :=
  App.to (App.step 1 (fun v => F.pleachref06_tens.l1100.eq (v 0) (v 1) a0 x0 x1) (by unfold F.pleachref06_tens.l1100.B; repeat' first | apply App.guard | apply App.cond | exact App.lim | exact App.val | exact App.no | apply App.meet | apply App.ite | refine App.bind ?_ fun _ => ?_)) h
theorem V.pleachref06_tens.of a0 {r} (h : F.pleachref06_tens.B V.pleachref06_tens.l1100 a0 = some r) : V.pleachref06_tens a0 = some r :=
  App.to (App.step 0 (fun v => F.pleachref06_tens.eq (v 0) a0) (by unfold F.pleachref06_tens.B; repeat' first | apply App.guard | apply App.cond | exact App.lim | exact (App.enter 1 App.lim) | exact App.val | exact App.no | apply App.meet | apply App.ite | refine App.bind ?_ fun _ => ?_)) h
noncomputable def F.pleachref06_Digits (K : Nat) (a0 : Int) : Option (ByteArray) := evFn Tryd.prog sg K 34 [.sc (.val (.int .i64 a0))] []
noncomputable def F.pleachref06_Digits.B (c0 : (Int) → Option (ByteArray)) (c1 : (Int) → Option (ByteArray)) (a0 : Int) : Option (ByteArray) :=
    (bif (decide (a0 < 0)) then (bif ((w64 ((w64 (Int.tmod (IntKind.wrap .u64 (w64 (0 - (w64 (a0 + 1))))) 10)) + 1)) == 10) then ((c0 (IntKind.wrap .u64 ((IntKind.wrap .u64 (Int.tdiv (IntKind.wrap .u64 (w64 (0 - (w64 (a0 + 1))))) 10)) + 1))).bind fun t0 => (guardK (decide ((⟨#[45]⟩ : ByteArray).size + t0.size ≤ i64max)) ((c1 0).bind fun t1 => (guardK (decide (((⟨#[45]⟩ : ByteArray) ++ t0).size + t1.size ≤ i64max)) (some (((⟨#[45]⟩ : ByteArray) ++ t0) ++ t1)))))) else ((c0 (IntKind.wrap .u64 (Int.tdiv (IntKind.wrap .u64 (w64 (0 - (w64 (a0 + 1))))) 10))).bind fun t2 => (guardK (decide ((⟨#[45]⟩ : ByteArray).size + t2.size ≤ i64max)) ((c1 (w64 ((w64 (Int.tmod (IntKind.wrap .u64 (w64 (0 - (w64 (a0 + 1))))) 10)) + 1))).bind fun t3 => (guardK (decide (((⟨#[45]⟩ : ByteArray) ++ t2).size + t3.size ≤ i64max)) (some (((⟨#[45]⟩ : ByteArray) ++ t2) ++ t3))))))) else ((c0 (IntKind.wrap .u64 (Int.tdiv (IntKind.wrap .u64 a0) 10))).bind fun t4 => ((c1 (Int.tmod a0 10)).bind fun t5 => (guardK (decide (t4.size + t5.size ≤ i64max)) (some (t4 ++ t5))))))
theorem F.pleachref06_Digits.eq K a0 : F.pleachref06_Digits (K + 1) a0 = F.pleachref06_Digits.B (F.pleachref06_tens K) (F.pleachref06_tail K) a0 := by kernel_rfl
noncomputable def V.pleachref06_Digits (a0 : Int) := lim fun v => F.pleachref06_Digits (v 0) a0
theorem V.pleachref06_Digits.of a0 {r} (h : F.pleachref06_Digits.B V.pleachref06_tens V.pleachref06_tail a0 = some r) : V.pleachref06_Digits a0 = some r :=
  App.to (App.step 0 (fun v => F.pleachref06_Digits.eq (v 0) a0) (by unfold F.pleachref06_Digits.B; repeat' first | apply App.guard | apply App.cond | exact App.lim | exact App.val | exact App.no | apply App.meet | apply App.ite | refine App.bind ?_ fun _ => ?_)) h
noncomputable def F.pleachref06_plain (K : Nat) (a0 : ByteArray) : Option (Bool) := evFn Tryd.prog sg K 35 [.sc (.val (.string a0))] []
noncomputable def F.pleachref06_plain.at (K : Nat) (p ns : List Nat) (s : St) : Option (Bool) := atFn Tryd.prog sg K 35 0 p ns s
noncomputable def F.pleachref06_plain.in (K : Nat) (H : List Nat → List Nat → St → Option (Bool)) (p ns : List Nat) (s : St) : Option (Bool) := inFn Tryd.prog sg K 35 0 [] H p ns s
theorem F.pleachref06_plain.in_eq K p ns s : F.pleachref06_plain.at K p ns s = F.pleachref06_plain.in K (F.pleachref06_plain.at K) p ns s := atFn_eq (P := Tryd.prog) (sg := sg) (K := K) (f := 35) (m := 0) [] p ns s
theorem F.pleachref06_plain.in_main K a0 : F.pleachref06_plain (K + 1) a0 = F.pleachref06_plain.in K (F.pleachref06_plain.at K) [] [] ⟨slots [.sc (.val (.string a0))] 0, []⟩ := evFn_eq (P := Tryd.prog) (sg := sg) (K := K) (f := 35) (args := [.sc (.val (.string a0))]) (σ := []) [] (by kernel_rfl)
def F.pleachref06_plain.l1010.st (a0 : ByteArray) (x0 : Int) : St := ⟨[(0, vS a0), (3, vI x0)], []⟩
noncomputable def F.pleachref06_plain.l1010 (K n0 : Nat) (a0 : ByteArray) (x0 : Int) := F.pleachref06_plain.at K [1, 0, 1, 0] [n0] (F.pleachref06_plain.l1010.st a0 x0)
noncomputable def F.pleachref06_plain.l1010.B (c0 : (ByteArray) → (Int) → Option (Bool)) (a0 : ByteArray) (x0 : Int) : Option (Bool) :=
    (bif (decide (x0 < (a0.size : Int))) then (guardK (decide (0 ≤ x0) && decide (x0 < (a0.size : Int))) (bif (decide ((byteAt a0 x0) ≥ 97)) then (bif (!(decide ((byteAt a0 x0) ≤ 122))) then (bif (decide ((byteAt a0 x0) ≥ 65)) then (bif (!(decide ((byteAt a0 x0) ≤ 90))) then (bif (decide ((byteAt a0 x0) ≥ 48)) then (bif (!(decide ((byteAt a0 x0) ≤ 57))) then (bif ((byteAt a0 x0) != 45) then (bif ((byteAt a0 x0) != 46) then (bif ((byteAt a0 x0) != 95) then (some false) else (c0 a0 (w64 (x0 + 1)))) else (c0 a0 (w64 (x0 + 1)))) else (c0 a0 (w64 (x0 + 1)))) else (c0 a0 (w64 (x0 + 1)))) else (bif ((byteAt a0 x0) != 45) then (bif ((byteAt a0 x0) != 46) then (bif ((byteAt a0 x0) != 95) then (some false) else (c0 a0 (w64 (x0 + 1)))) else (c0 a0 (w64 (x0 + 1)))) else (c0 a0 (w64 (x0 + 1))))) else (c0 a0 (w64 (x0 + 1)))) else (bif (decide ((byteAt a0 x0) ≥ 48)) then (bif (!(decide ((byteAt a0 x0) ≤ 57))) then (bif ((byteAt a0 x0) != 45) then (bif ((byteAt a0 x0) != 46) then (bif ((byteAt a0 x0) != 95) then (some false) else (c0 a0 (w64 (x0 + 1)))) else (c0 a0 (w64 (x0 + 1)))) else (c0 a0 (w64 (x0 + 1)))) else (c0 a0 (w64 (x0 + 1)))) else (bif ((byteAt a0 x0) != 45) then (bif ((byteAt a0 x0) != 46) then (bif ((byteAt a0 x0) != 95) then (some false) else (c0 a0 (w64 (x0 + 1)))) else (c0 a0 (w64 (x0 + 1)))) else (c0 a0 (w64 (x0 + 1)))))) else (c0 a0 (w64 (x0 + 1)))) else (bif (decide ((byteAt a0 x0) ≥ 65)) then (bif (!(decide ((byteAt a0 x0) ≤ 90))) then (bif (decide ((byteAt a0 x0) ≥ 48)) then (bif (!(decide ((byteAt a0 x0) ≤ 57))) then (bif ((byteAt a0 x0) != 45) then (bif ((byteAt a0 x0) != 46) then (bif ((byteAt a0 x0) != 95) then (some false) else (c0 a0 (w64 (x0 + 1)))) else (c0 a0 (w64 (x0 + 1)))) else (c0 a0 (w64 (x0 + 1)))) else (c0 a0 (w64 (x0 + 1)))) else (bif ((byteAt a0 x0) != 45) then (bif ((byteAt a0 x0) != 46) then (bif ((byteAt a0 x0) != 95) then (some false) else (c0 a0 (w64 (x0 + 1)))) else (c0 a0 (w64 (x0 + 1)))) else (c0 a0 (w64 (x0 + 1))))) else (c0 a0 (w64 (x0 + 1)))) else (bif (decide ((byteAt a0 x0) ≥ 48)) then (bif (!(decide ((byteAt a0 x0) ≤ 57))) then (bif ((byteAt a0 x0) != 45) then (bif ((byteAt a0 x0) != 46) then (bif ((byteAt a0 x0) != 95) then (some false) else (c0 a0 (w64 (x0 + 1)))) else (c0 a0 (w64 (x0 + 1)))) else (c0 a0 (w64 (x0 + 1)))) else (c0 a0 (w64 (x0 + 1)))) else (bif ((byteAt a0 x0) != 45) then (bif ((byteAt a0 x0) != 46) then (bif ((byteAt a0 x0) != 95) then (some false) else (c0 a0 (w64 (x0 + 1)))) else (c0 a0 (w64 (x0 + 1)))) else (c0 a0 (w64 (x0 + 1)))))))) else (some true))
theorem F.pleachref06_plain.l1010.eq K n0 a0 x0 : F.pleachref06_plain.l1010 K (n0 + 1) a0 x0 = F.pleachref06_plain.l1010.B (F.pleachref06_plain.l1010 K n0) a0 x0 := (F.pleachref06_plain.in_eq K [1, 0, 1, 0] [n0 + 1] (F.pleachref06_plain.l1010.st a0 x0)).trans ((show ∀ H, F.pleachref06_plain.in K H [1, 0, 1, 0] [n0 + 1] (F.pleachref06_plain.l1010.st a0 x0) = F.pleachref06_plain.l1010.B (fun a0 x0 => H [1, 0, 1, 0] [n0] (F.pleachref06_plain.l1010.st a0 x0)) a0 x0 from by intro H; kernel_rfl) (F.pleachref06_plain.at K))
noncomputable def F.pleachref06_plain.B (c0 : (ByteArray) → (Int) → Option (Bool)) (a0 : ByteArray) : Option (Bool) :=
    (c0 a0 0)
theorem F.pleachref06_plain.eq K a0 : F.pleachref06_plain (K + 1) a0 = F.pleachref06_plain.B (F.pleachref06_plain.l1010 K K) a0 := (F.pleachref06_plain.in_main K a0).trans ((show ∀ H, F.pleachref06_plain.in K H [] [] ⟨slots [.sc (.val (.string a0))] 0, []⟩ = F.pleachref06_plain.B (fun a0 x0 => H [1, 0, 1, 0] [K] (F.pleachref06_plain.l1010.st a0 x0)) a0 from by intro H; kernel_rfl) (F.pleachref06_plain.at K))
noncomputable def V.pleachref06_plain.l1010 (a0 : ByteArray) (x0 : Int) := lim fun v => F.pleachref06_plain.l1010 (v 0) (v 1) a0 x0
noncomputable def V.pleachref06_plain (a0 : ByteArray) := lim fun v => F.pleachref06_plain (v 0) a0
theorem V.pleachref06_plain.l1010.of a0 x0 {r} (h : F.pleachref06_plain.l1010.B V.pleachref06_plain.l1010 a0 x0 = some r) : V.pleachref06_plain.l1010 a0 x0 = some r :=
  App.to (App.step 1 (fun v => F.pleachref06_plain.l1010.eq (v 0) (v 1) a0 x0) (by unfold F.pleachref06_plain.l1010.B; repeat' first | apply App.guard | apply App.cond | exact App.lim | exact App.val | exact App.no | apply App.meet | apply App.ite | refine App.bind ?_ fun _ => ?_)) h
theorem V.pleachref06_plain.of a0 {r} (h : F.pleachref06_plain.B V.pleachref06_plain.l1010 a0 = some r) : V.pleachref06_plain a0 = some r :=
  App.to (App.step 0 (fun v => F.pleachref06_plain.eq (v 0) a0) (by unfold F.pleachref06_plain.B; repeat' first | apply App.guard | apply App.cond | exact App.lim | exact (App.enter 1 App.lim) | exact App.val | exact App.no | apply App.meet | apply App.ite | refine App.bind ?_ fun _ => ?_)) h
noncomputable def F.pleachref03_Hex (K : Nat) (a0 : ByteArray) : Option (ByteArray) := evFn Tryd.prog sg K 36 [.sc (.val (.string a0))] []
noncomputable def F.pleachref03_Hex.at (K : Nat) (p ns : List Nat) (s : St) : Option (ByteArray) := atFn Tryd.prog sg K 36 0 p ns s
noncomputable def F.pleachref03_Hex.in (K : Nat) (H : List Nat → List Nat → St → Option (ByteArray)) (p ns : List Nat) (s : St) : Option (ByteArray) := inFn Tryd.prog sg K 36 0 [] H p ns s
theorem F.pleachref03_Hex.in_eq K p ns s : F.pleachref03_Hex.at K p ns s = F.pleachref03_Hex.in K (F.pleachref03_Hex.at K) p ns s := atFn_eq (P := Tryd.prog) (sg := sg) (K := K) (f := 36) (m := 0) [] p ns s
theorem F.pleachref03_Hex.in_main K a0 : F.pleachref03_Hex (K + 1) a0 = F.pleachref03_Hex.in K (F.pleachref03_Hex.at K) [] [] ⟨slots [.sc (.val (.string a0))] 0, []⟩ := evFn_eq (P := Tryd.prog) (sg := sg) (K := K) (f := 36) (args := [.sc (.val (.string a0))]) (σ := []) [] (by kernel_rfl)
def F.pleachref03_Hex.l111010.st (a0 : ByteArray) (x0 : ByteArray) (x1 : Int) : St := ⟨[(0, vS a0), (3, vS (⟨#[48, 49, 50, 51, 52, 53, 54, 55, 56, 57, 97, 98, 99, 100, 101, 102]⟩ : ByteArray)), (4, vS x0), (5, vI x1)], []⟩
noncomputable def F.pleachref03_Hex.l111010 (K n0 : Nat) (a0 : ByteArray) (x0 : ByteArray) (x1 : Int) := F.pleachref03_Hex.at K [1, 1, 1, 0, 1, 0] [n0] (F.pleachref03_Hex.l111010.st a0 x0 x1)
noncomputable def F.pleachref03_Hex.l111010.B (c0 : (ByteArray) → (ByteArray) → (Int) → Option (ByteArray)) (a0 : ByteArray) (x0 : ByteArray) (x1 : Int) : Option (ByteArray) :=
    (bif (decide (x1 < (a0.size : Int))) then (guardK (decide (0 ≤ x1) && decide (x1 < (a0.size : Int))) (guardK (decide (0 ≤ x1) && decide (x1 < (a0.size : Int))) (guardK (decide (0 ≤ (w64 (Int.tdiv (w64 (byteAt a0 x1)) 16))) && decide ((w64 (Int.tdiv (w64 (byteAt a0 x1)) 16)) ≤ (w64 ((w64 (Int.tdiv (w64 (byteAt a0 x1)) 16)) + 1))) && decide ((w64 ((w64 (Int.tdiv (w64 (byteAt a0 x1)) 16)) + 1)) ≤ ((⟨#[48, 49, 50, 51, 52, 53, 54, 55, 56, 57, 97, 98, 99, 100, 101, 102]⟩ : ByteArray).size : Int))) (guardK (decide (x0.size + ((⟨#[48, 49, 50, 51, 52, 53, 54, 55, 56, 57, 97, 98, 99, 100, 101, 102]⟩ : ByteArray).extract (w64 (Int.tdiv (w64 (byteAt a0 x1)) 16)).toNat (w64 ((w64 (Int.tdiv (w64 (byteAt a0 x1)) 16)) + 1)).toNat).size ≤ i64max)) (guardK (decide (0 ≤ (Int.tmod (w64 (byteAt a0 x1)) 16)) && decide ((Int.tmod (w64 (byteAt a0 x1)) 16) ≤ (w64 ((Int.tmod (w64 (byteAt a0 x1)) 16) + 1))) && decide ((w64 ((Int.tmod (w64 (byteAt a0 x1)) 16) + 1)) ≤ ((⟨#[48, 49, 50, 51, 52, 53, 54, 55, 56, 57, 97, 98, 99, 100, 101, 102]⟩ : ByteArray).size : Int))) (guardK (decide ((x0 ++ ((⟨#[48, 49, 50, 51, 52, 53, 54, 55, 56, 57, 97, 98, 99, 100, 101, 102]⟩ : ByteArray).extract (w64 (Int.tdiv (w64 (byteAt a0 x1)) 16)).toNat (w64 ((w64 (Int.tdiv (w64 (byteAt a0 x1)) 16)) + 1)).toNat)).size + ((⟨#[48, 49, 50, 51, 52, 53, 54, 55, 56, 57, 97, 98, 99, 100, 101, 102]⟩ : ByteArray).extract (Int.tmod (w64 (byteAt a0 x1)) 16).toNat (w64 ((Int.tmod (w64 (byteAt a0 x1)) 16) + 1)).toNat).size ≤ i64max)) (c0 a0 ((x0 ++ ((⟨#[48, 49, 50, 51, 52, 53, 54, 55, 56, 57, 97, 98, 99, 100, 101, 102]⟩ : ByteArray).extract (w64 (Int.tdiv (w64 (byteAt a0 x1)) 16)).toNat (w64 ((w64 (Int.tdiv (w64 (byteAt a0 x1)) 16)) + 1)).toNat)) ++ ((⟨#[48, 49, 50, 51, 52, 53, 54, 55, 56, 57, 97, 98, 99, 100, 101, 102]⟩ : ByteArray).extract (Int.tmod (w64 (byteAt a0 x1)) 16).toNat (w64 ((Int.tmod (w64 (byteAt a0 x1)) 16) + 1)).toNat)) (w64 (x1 + 1))))))))) else (some x0))
theorem F.pleachref03_Hex.l111010.eq K n0 a0 x0 x1 : F.pleachref03_Hex.l111010 K (n0 + 1) a0 x0 x1 = F.pleachref03_Hex.l111010.B (F.pleachref03_Hex.l111010 K n0) a0 x0 x1 := (F.pleachref03_Hex.in_eq K [1, 1, 1, 0, 1, 0] [n0 + 1] (F.pleachref03_Hex.l111010.st a0 x0 x1)).trans ((show ∀ H, F.pleachref03_Hex.in K H [1, 1, 1, 0, 1, 0] [n0 + 1] (F.pleachref03_Hex.l111010.st a0 x0 x1) = F.pleachref03_Hex.l111010.B (fun a0 x0 x1 => H [1, 1, 1, 0, 1, 0] [n0] (F.pleachref03_Hex.l111010.st a0 x0 x1)) a0 x0 x1 from by intro H; kernel_rfl) (F.pleachref03_Hex.at K))
noncomputable def F.pleachref03_Hex.B (c0 : (ByteArray) → (ByteArray) → (Int) → Option (ByteArray)) (a0 : ByteArray) : Option (ByteArray) :=
    (c0 a0 (⟨#[]⟩ : ByteArray) 0)
theorem F.pleachref03_Hex.eq K a0 : F.pleachref03_Hex (K + 1) a0 = F.pleachref03_Hex.B (F.pleachref03_Hex.l111010 K K) a0 := (F.pleachref03_Hex.in_main K a0).trans ((show ∀ H, F.pleachref03_Hex.in K H [] [] ⟨slots [.sc (.val (.string a0))] 0, []⟩ = F.pleachref03_Hex.B (fun a0 x0 x1 => H [1, 1, 1, 0, 1, 0] [K] (F.pleachref03_Hex.l111010.st a0 x0 x1)) a0 from by intro H; kernel_rfl) (F.pleachref03_Hex.at K))
noncomputable def V.pleachref03_Hex.l111010 (a0 : ByteArray) (x0 : ByteArray) (x1 : Int) := lim fun v => F.pleachref03_Hex.l111010 (v 0) (v 1) a0 x0 x1
noncomputable def V.pleachref03_Hex (a0 : ByteArray) := lim fun v => F.pleachref03_Hex (v 0) a0
theorem V.pleachref03_Hex.l111010.of a0 x0 x1 {r} (h : F.pleachref03_Hex.l111010.B V.pleachref03_Hex.l111010 a0 x0 x1 = some r) : V.pleachref03_Hex.l111010 a0 x0 x1 = some r :=
  App.to (App.step 1 (fun v => F.pleachref03_Hex.l111010.eq (v 0) (v 1) a0 x0 x1) (by unfold F.pleachref03_Hex.l111010.B; repeat' first | apply App.guard | apply App.cond | exact App.lim | exact App.val | exact App.no | apply App.meet | apply App.ite | refine App.bind ?_ fun _ => ?_)) h
theorem V.pleachref03_Hex.of a0 {r} (h : F.pleachref03_Hex.B V.pleachref03_Hex.l111010 a0 = some r) : V.pleachref03_Hex a0 = some r :=
  App.to (App.step 0 (fun v => F.pleachref03_Hex.eq (v 0) a0) (by unfold F.pleachref03_Hex.B; repeat' first | apply App.guard | apply App.cond | exact App.lim | exact (App.enter 1 App.lim) | exact App.val | exact App.no | apply App.meet | apply App.ite | refine App.bind ?_ fun _ => ?_)) h
noncomputable def F.pleachref06_Show (K : Nat) (a0 : TValue) : Option (ByteArray) := evFn Tryd.prog sg K 14 [.agg [.val (.int .i64 a0.1), .val (.int .i64 a0.2.1), .val (.string a0.2.2)]] []
noncomputable def F.pleachref06_Show.B (c0 : (TValue) → Option (Bool)) (c1 : (Int) → Option (ByteArray)) (c2 : (ByteArray) → Option (Bool)) (c3 : (ByteArray) → Option (ByteArray)) (a0 : TValue) : Option (ByteArray) :=
    ((c0 (a0.1, a0.2.1, a0.2.2)).bind fun t0 => (bif (!t0) then (some (⟨#[]⟩ : ByteArray)) else (bif (a0.1 == 1) then (bif (a0.2.1 == 1) then (some (⟨#[116, 114, 117, 101]⟩ : ByteArray)) else (bif (a0.1 == 1) then (some (⟨#[102, 97, 108, 115, 101]⟩ : ByteArray)) else (bif (a0.1 == 2) then ((c1 a0.2.1).bind fun t1 => (some t1)) else ((c2 a0.2.2).bind fun t2 => (bif t2 then (guardK (decide ((⟨#[39]⟩ : ByteArray).size + a0.2.2.size ≤ i64max)) (some ((⟨#[39]⟩ : ByteArray) ++ a0.2.2))) else ((c3 a0.2.2).bind fun t3 => (guardK (decide ((⟨#[35]⟩ : ByteArray).size + t3.size ≤ i64max)) (some ((⟨#[35]⟩ : ByteArray) ++ t3))))))))) else (bif (a0.1 == 1) then (some (⟨#[102, 97, 108, 115, 101]⟩ : ByteArray)) else (bif (a0.1 == 2) then ((c1 a0.2.1).bind fun t4 => (some t4)) else ((c2 a0.2.2).bind fun t5 => (bif t5 then (guardK (decide ((⟨#[39]⟩ : ByteArray).size + a0.2.2.size ≤ i64max)) (some ((⟨#[39]⟩ : ByteArray) ++ a0.2.2))) else ((c3 a0.2.2).bind fun t6 => (guardK (decide ((⟨#[35]⟩ : ByteArray).size + t6.size ≤ i64max)) (some ((⟨#[35]⟩ : ByteArray) ++ t6)))))))))))
theorem F.pleachref06_Show.eq K a0 : F.pleachref06_Show (K + 1) a0 = F.pleachref06_Show.B (F.pleachref06_Is K) (F.pleachref06_Digits K) (F.pleachref06_plain K) (F.pleachref03_Hex K) a0 := by kernel_rfl
noncomputable def V.pleachref06_Show (a0 : TValue) := lim fun v => F.pleachref06_Show (v 0) a0
theorem V.pleachref06_Show.of a0 {r} (h : F.pleachref06_Show.B V.pleachref06_Is V.pleachref06_Digits V.pleachref06_plain V.pleachref03_Hex a0 = some r) : V.pleachref06_Show a0 = some r :=
  App.to (App.step 0 (fun v => F.pleachref06_Show.eq (v 0) a0) (by unfold F.pleachref06_Show.B; repeat' first | apply App.guard | apply App.cond | exact App.lim | exact App.val | exact App.no | apply App.meet | apply App.ite | refine App.bind ?_ fun _ => ?_)) h
noncomputable def F.stringslite_HasPrefix (K : Nat) (a0 : ByteArray) (a1 : ByteArray) : Option (Bool) := evFn Tryd.prog sg K 80 [.sc (.val (.string a0)), .sc (.val (.string a1))] []
noncomputable def F.stringslite_HasPrefix.B (a0 : ByteArray) (a1 : ByteArray) : Option (Bool) :=
    (bif (decide ((a0.size : Int) ≥ (a1.size : Int))) then (guardK (decide (0 ≤ (a1.size : Int)) && decide ((a1.size : Int) ≤ (a0.size : Int))) (some (strEq (a0.extract 0 (a1.size : Int).toNat) a1))) else (some false))
theorem F.stringslite_HasPrefix.eq K a0 a1 : F.stringslite_HasPrefix (K + 1) a0 a1 = F.stringslite_HasPrefix.B a0 a1 := by kernel_rfl
noncomputable def V.stringslite_HasPrefix (a0 : ByteArray) (a1 : ByteArray) := lim fun v => F.stringslite_HasPrefix (v 0) a0 a1
theorem V.stringslite_HasPrefix.of a0 a1 {r} (h : F.stringslite_HasPrefix.B a0 a1 = some r) : V.stringslite_HasPrefix a0 a1 = some r :=
  App.to (App.step 0 (fun v => F.stringslite_HasPrefix.eq (v 0) a0 a1) (by unfold F.stringslite_HasPrefix.B; repeat' first | apply App.guard | apply App.cond | exact App.lim | exact App.val | exact App.no | apply App.meet | apply App.ite | refine App.bind ?_ fun _ => ?_)) h
noncomputable def F.strings_HasPrefix (K : Nat) (a0 : ByteArray) (a1 : ByteArray) : Option (Bool) := evFn Tryd.prog sg K 70 [.sc (.val (.string a0)), .sc (.val (.string a1))] []
noncomputable def F.strings_HasPrefix.B (c0 : (ByteArray) → (ByteArray) → Option (Bool)) (a0 : ByteArray) (a1 : ByteArray) : Option (Bool) :=
    ((c0 a0 a1).bind fun t0 => (some t0))
theorem F.strings_HasPrefix.eq K a0 a1 : F.strings_HasPrefix (K + 1) a0 a1 = F.strings_HasPrefix.B (F.stringslite_HasPrefix K) a0 a1 := by kernel_rfl
noncomputable def V.strings_HasPrefix (a0 : ByteArray) (a1 : ByteArray) := lim fun v => F.strings_HasPrefix (v 0) a0 a1
theorem V.strings_HasPrefix.of a0 a1 {r} (h : F.strings_HasPrefix.B V.stringslite_HasPrefix a0 a1 = some r) : V.strings_HasPrefix a0 a1 = some r :=
  App.to (App.step 0 (fun v => F.strings_HasPrefix.eq (v 0) a0 a1) (by unfold F.strings_HasPrefix.B; repeat' first | apply App.guard | apply App.cond | exact App.lim | exact App.val | exact App.no | apply App.meet | apply App.ite | refine App.bind ?_ fun _ => ?_)) h
noncomputable def F.sha_digit (K : Nat) (a0 : Int) : Option (Int) := evFn Tryd.prog sg K 81 [.sc (.val (.int .u8 a0))] []
noncomputable def F.sha_digit.B (a0 : Int) : Option (Int) :=
    (bif (decide (a0 ≥ 48)) then (bif (decide (a0 ≤ 57)) then (some (IntKind.wrap .u8 (a0 - 48))) else (bif (decide (a0 ≥ 97)) then (bif (decide (a0 ≤ 102)) then (some (IntKind.wrap .u8 ((IntKind.wrap .u8 (a0 - 97)) + 10))) else (some 16)) else (some 16))) else (bif (decide (a0 ≥ 97)) then (bif (decide (a0 ≤ 102)) then (some (IntKind.wrap .u8 ((IntKind.wrap .u8 (a0 - 97)) + 10))) else (some 16)) else (some 16)))
theorem F.sha_digit.eq K a0 : F.sha_digit (K + 1) a0 = F.sha_digit.B a0 := by kernel_rfl
noncomputable def V.sha_digit (a0 : Int) := lim fun v => F.sha_digit (v 0) a0
theorem V.sha_digit.of a0 {r} (h : F.sha_digit.B a0 = some r) : V.sha_digit a0 = some r :=
  App.to (App.step 0 (fun v => F.sha_digit.eq (v 0) a0) (by unfold F.sha_digit.B; repeat' first | apply App.guard | apply App.cond | exact App.lim | exact App.val | exact App.no | apply App.meet | apply App.ite | refine App.bind ?_ fun _ => ?_)) h
noncomputable def F.sha_Unhex (K : Nat) (a0 : ByteArray) : Option (ByteArray × Bool) := evFn Tryd.prog sg K 71 [.sc (.val (.string a0))] []
noncomputable def F.sha_Unhex.at (K : Nat) (p ns : List Nat) (s : St) : Option (ByteArray × Bool) := atFn Tryd.prog sg K 71 0 p ns s
noncomputable def F.sha_Unhex.in (K : Nat) (H : List Nat → List Nat → St → Option (ByteArray × Bool)) (p ns : List Nat) (s : St) : Option (ByteArray × Bool) := inFn Tryd.prog sg K 71 0 [] H p ns s
theorem F.sha_Unhex.in_eq K p ns s : F.sha_Unhex.at K p ns s = F.sha_Unhex.in K (F.sha_Unhex.at K) p ns s := atFn_eq (P := Tryd.prog) (sg := sg) (K := K) (f := 71) (m := 0) [] p ns s
theorem F.sha_Unhex.in_main K a0 : F.sha_Unhex (K + 1) a0 = F.sha_Unhex.in K (F.sha_Unhex.at K) [] [] ⟨slots [.sc (.val (.string a0))] 0, []⟩ := evFn_eq (P := Tryd.prog) (sg := sg) (K := K) (f := 71) (args := [.sc (.val (.string a0))]) (σ := []) [] (by kernel_rfl)
def F.sha_Unhex.l111010.st (a0 : ByteArray) (x0 : Int) (x1 : List Int) : St := ⟨[(0, vS a0), (4, .one (.sc (.own 0 none))), (5, vI x0)], [.elems (.int .u8) x1]⟩
noncomputable def F.sha_Unhex.l111010 (K n0 : Nat) (a0 : ByteArray) (x0 : Int) (x1 : List Int) := F.sha_Unhex.at K [1, 1, 1, 0, 1, 0] [n0] (F.sha_Unhex.l111010.st a0 x0 x1)
noncomputable def F.sha_Unhex.l111010.B (c0 : (Int) → Option (Int)) (c1 : (ByteArray) → (Int) → (List Int) → Option (ByteArray × Bool)) (a0 : ByteArray) (x0 : Int) (x1 : List Int) : Option (ByteArray × Bool) :=
    (bif (decide (x0 < (a0.size : Int))) then (guardK (decide (0 ≤ x0) && decide (x0 < (a0.size : Int))) (guardK (decide (0 ≤ (w64 (x0 + 1))) && decide ((w64 (x0 + 1)) < (a0.size : Int))) ((c0 (byteAt a0 x0)).bind fun t0 => ((c0 (byteAt a0 (w64 (x0 + 1)))).bind fun t1 => (bif (decide (t0 > 15)) then (some ((⟨#[]⟩ : ByteArray), false)) else (bif (decide (t1 > 15)) then (some ((⟨#[]⟩ : ByteArray), false)) else (guardK (decide (x1.length + ([(IntKind.wrap .u8 ((BitVec.ofInt 8 (IntKind.wrap .u8 (t0 * 2 ^ 4)) ||| BitVec.ofInt 8 t1).toNat : Int))]).length ≤ nmax)) (c1 a0 (w64 (x0 + 2)) (x1 ++ [(IntKind.wrap .u8 ((BitVec.ofInt 8 (IntKind.wrap .u8 (t0 * 2 ^ 4)) ||| BitVec.ofInt 8 t1).toNat : Int))]))))))))) else (some ((bytesOf x1), true)))
theorem F.sha_Unhex.l111010.eq K n0 a0 x0 x1 : F.sha_Unhex.l111010 K (n0 + 1) a0 x0 x1 = F.sha_Unhex.l111010.B (F.sha_digit K) (F.sha_Unhex.l111010 K n0) a0 x0 x1 := (F.sha_Unhex.in_eq K [1, 1, 1, 0, 1, 0] [n0 + 1] (F.sha_Unhex.l111010.st a0 x0 x1)).trans ((show ∀ H, F.sha_Unhex.in K H [1, 1, 1, 0, 1, 0] [n0 + 1] (F.sha_Unhex.l111010.st a0 x0 x1) = F.sha_Unhex.l111010.B (F.sha_digit K) (fun a0 x0 x1 => H [1, 1, 1, 0, 1, 0] [n0] (F.sha_Unhex.l111010.st a0 x0 x1)) a0 x0 x1 from by intro H; kernel_rfl) (F.sha_Unhex.at K))
noncomputable def F.sha_Unhex.B (c0 : (ByteArray) → (Int) → (List Int) → Option (ByteArray × Bool)) (a0 : ByteArray) : Option (ByteArray × Bool) :=
    (bif ((Int.tmod (a0.size : Int) 2) != 0) then (some ((⟨#[]⟩ : ByteArray), false)) else (c0 a0 0 ([])))
theorem F.sha_Unhex.eq K a0 : F.sha_Unhex (K + 1) a0 = F.sha_Unhex.B (F.sha_Unhex.l111010 K K) a0 := (F.sha_Unhex.in_main K a0).trans ((show ∀ H, F.sha_Unhex.in K H [] [] ⟨slots [.sc (.val (.string a0))] 0, []⟩ = F.sha_Unhex.B (fun a0 x0 x1 => H [1, 1, 1, 0, 1, 0] [K] (F.sha_Unhex.l111010.st a0 x0 x1)) a0 from by intro H; kernel_rfl) (F.sha_Unhex.at K))
noncomputable def V.sha_Unhex.l111010 (a0 : ByteArray) (x0 : Int) (x1 : List Int) := lim fun v => F.sha_Unhex.l111010 (v 0) (v 1) a0 x0 x1
noncomputable def V.sha_Unhex (a0 : ByteArray) := lim fun v => F.sha_Unhex (v 0) a0
theorem V.sha_Unhex.l111010.of a0 x0 x1 {r} (h : F.sha_Unhex.l111010.B V.sha_digit V.sha_Unhex.l111010 a0 x0 x1 = some r) : V.sha_Unhex.l111010 a0 x0 x1 = some r :=
  App.to (App.step 1 (fun v => F.sha_Unhex.l111010.eq (v 0) (v 1) a0 x0 x1) (by unfold F.sha_Unhex.l111010.B; repeat' first | apply App.guard | apply App.cond | exact App.lim | exact App.val | exact App.no | apply App.meet | apply App.ite | refine App.bind ?_ fun _ => ?_)) h
theorem V.sha_Unhex.of a0 {r} (h : F.sha_Unhex.B V.sha_Unhex.l111010 a0 = some r) : V.sha_Unhex a0 = some r :=
  App.to (App.step 0 (fun v => F.sha_Unhex.eq (v 0) a0) (by unfold F.sha_Unhex.B; repeat' first | apply App.guard | apply App.cond | exact App.lim | exact (App.enter 1 App.lim) | exact App.val | exact App.no | apply App.meet | apply App.ite | refine App.bind ?_ fun _ => ?_)) h
noncomputable def F.strconv_Atoi (K : Nat) (a0 : ByteArray) : Option (Int × Bool) := evFn Tryd.prog sg K 72 [.sc (.val (.string a0))] []
noncomputable def F.strconv_Atoi.B (a0 : ByteArray) : Option (Int × Bool) :=
    (atoiB a0)
theorem F.strconv_Atoi.eq K a0 : F.strconv_Atoi (K + 1) a0 = F.strconv_Atoi.B a0 := by kernel_rfl
noncomputable def V.strconv_Atoi (a0 : ByteArray) := lim fun v => F.strconv_Atoi (v 0) a0
theorem V.strconv_Atoi.of a0 {r} (h : F.strconv_Atoi.B a0 = some r) : V.strconv_Atoi a0 = some r :=
  App.to (App.step 0 (fun v => F.strconv_Atoi.eq (v 0) a0) App.const) h
noncomputable def F.value_read (K : Nat) (a0 : ByteArray) : Option (TValue × Bool) := evFn Tryd.prog sg K 49 [.sc (.val (.string a0))] []
noncomputable def F.value_read.B (c0 : (ByteArray) → (ByteArray) → Option (Bool)) (c1 : (ByteArray) → Option (ByteArray × Bool)) (c2 : (ByteArray) → Option (Int × Bool)) (a0 : ByteArray) : Option (TValue × Bool) :=
    (bif (strEq a0 (⟨#[116, 114, 117, 101]⟩ : ByteArray)) then (some ((1, 1, (⟨#[]⟩ : ByteArray)), true)) else (bif (strEq a0 (⟨#[102, 97, 108, 115, 101]⟩ : ByteArray)) then (some ((1, 0, (⟨#[]⟩ : ByteArray)), true)) else ((c0 a0 (⟨#[39]⟩ : ByteArray)).bind fun t0 => (bif t0 then (guardK (decide (1 ≤ (a0.size : Int)) && decide ((a0.size : Int) ≤ (a0.size : Int))) (some ((3, 0, (a0.extract 1 (a0.size : Int).toNat)), true))) else ((c0 a0 (⟨#[35]⟩ : ByteArray)).bind fun t1 => (bif t1 then (guardK (decide (1 ≤ (a0.size : Int)) && decide ((a0.size : Int) ≤ (a0.size : Int))) ((c1 (a0.extract 1 (a0.size : Int).toNat)).bind fun t2 => (some ((3, 0, t2.1), t2.2)))) else ((c2 a0).bind fun t3 => (some ((2, t3.1, (⟨#[]⟩ : ByteArray)), t3.2)))))))))
theorem F.value_read.eq K a0 : F.value_read (K + 1) a0 = F.value_read.B (F.strings_HasPrefix K) (F.sha_Unhex K) (F.strconv_Atoi K) a0 := by kernel_rfl
noncomputable def V.value_read (a0 : ByteArray) := lim fun v => F.value_read (v 0) a0
theorem V.value_read.of a0 {r} (h : F.value_read.B V.strings_HasPrefix V.sha_Unhex V.strconv_Atoi a0 = some r) : V.value_read a0 = some r :=
  App.to (App.step 0 (fun v => F.value_read.eq (v 0) a0) (by unfold F.value_read.B; repeat' first | apply App.guard | apply App.cond | exact App.lim | exact App.val | exact App.no | apply App.meet | apply App.ite | refine App.bind ?_ fun _ => ?_)) h
noncomputable def F.value_Parse (K : Nat) (a0 : ByteArray) : Option (TValue × Int) := evFn Tryd.prog sg K 24 [.sc (.val (.string a0))] []
noncomputable def F.value_Parse.B (c0 : (ByteArray) → Option (TValue × Bool)) (c1 : (TValue) → Option (ByteArray)) (a0 : ByteArray) : Option (TValue × Int) :=
    ((c0 a0).bind fun t0 => (bif (!t0.2) then (some ((0, 0, (⟨#[]⟩ : ByteArray)), 3)) else ((c1 (t0.1.1, t0.1.2.1, t0.1.2.2)).bind fun t1 => (bif (!strEq t1 a0) then (some ((0, 0, (⟨#[]⟩ : ByteArray)), 3)) else (some ((t0.1.1, t0.1.2.1, t0.1.2.2), 0))))))
theorem F.value_Parse.eq K a0 : F.value_Parse (K + 1) a0 = F.value_Parse.B (F.value_read K) (F.value_Show K) a0 := by kernel_rfl
noncomputable def V.value_Parse (a0 : ByteArray) := lim fun v => F.value_Parse (v 0) a0
theorem V.value_Parse.of a0 {r} (h : F.value_Parse.B V.value_read V.value_Show a0 = some r) : V.value_Parse a0 = some r :=
  App.to (App.step 0 (fun v => F.value_Parse.eq (v 0) a0) (by unfold F.value_Parse.B; repeat' first | apply App.guard | apply App.cond | exact App.lim | exact App.val | exact App.no | apply App.meet | apply App.ite | refine App.bind ?_ fun _ => ?_)) h
noncomputable def F.pleachref03_place (K : Nat) (a0 : Int) : Option (Int) := evFn Tryd.prog sg K 73 [.sc (.val (.int .u8 a0))] []
noncomputable def F.pleachref03_place.at (K : Nat) (p ns : List Nat) (s : St) : Option (Int) := atFn Tryd.prog sg K 73 0 p ns s
noncomputable def F.pleachref03_place.in (K : Nat) (H : List Nat → List Nat → St → Option (Int)) (p ns : List Nat) (s : St) : Option (Int) := inFn Tryd.prog sg K 73 0 [] H p ns s
theorem F.pleachref03_place.in_eq K p ns s : F.pleachref03_place.at K p ns s = F.pleachref03_place.in K (F.pleachref03_place.at K) p ns s := atFn_eq (P := Tryd.prog) (sg := sg) (K := K) (f := 73) (m := 0) [] p ns s
theorem F.pleachref03_place.in_main K a0 : F.pleachref03_place (K + 1) a0 = F.pleachref03_place.in K (F.pleachref03_place.at K) [] [] ⟨slots [.sc (.val (.int .u8 a0))] 0, []⟩ := evFn_eq (P := Tryd.prog) (sg := sg) (K := K) (f := 73) (args := [.sc (.val (.int .u8 a0))]) (σ := []) [] (by kernel_rfl)
def F.pleachref03_place.l11010.st (a0 : Int) (x0 : Int) : St := ⟨[(0, .one (.sc (.val (.int .u8 a0)))), (3, vS (⟨#[48, 49, 50, 51, 52, 53, 54, 55, 56, 57, 97, 98, 99, 100, 101, 102]⟩ : ByteArray)), (4, vI x0)], []⟩
noncomputable def F.pleachref03_place.l11010 (K n0 : Nat) (a0 : Int) (x0 : Int) := F.pleachref03_place.at K [1, 1, 0, 1, 0] [n0] (F.pleachref03_place.l11010.st a0 x0)
noncomputable def F.pleachref03_place.l11010.B (c0 : (Int) → (Int) → Option (Int)) (a0 : Int) (x0 : Int) : Option (Int) :=
    (bif (decide (x0 < 16)) then (guardK (decide (0 ≤ x0) && decide (x0 < ((⟨#[48, 49, 50, 51, 52, 53, 54, 55, 56, 57, 97, 98, 99, 100, 101, 102]⟩ : ByteArray).size : Int))) (bif ((byteAt (⟨#[48, 49, 50, 51, 52, 53, 54, 55, 56, 57, 97, 98, 99, 100, 101, 102]⟩ : ByteArray) x0) == a0) then (some x0) else (c0 a0 (w64 (x0 + 1))))) else (some 16))
theorem F.pleachref03_place.l11010.eq K n0 a0 x0 : F.pleachref03_place.l11010 K (n0 + 1) a0 x0 = F.pleachref03_place.l11010.B (F.pleachref03_place.l11010 K n0) a0 x0 := (F.pleachref03_place.in_eq K [1, 1, 0, 1, 0] [n0 + 1] (F.pleachref03_place.l11010.st a0 x0)).trans ((show ∀ H, F.pleachref03_place.in K H [1, 1, 0, 1, 0] [n0 + 1] (F.pleachref03_place.l11010.st a0 x0) = F.pleachref03_place.l11010.B (fun a0 x0 => H [1, 1, 0, 1, 0] [n0] (F.pleachref03_place.l11010.st a0 x0)) a0 x0 from by intro H; kernel_rfl) (F.pleachref03_place.at K))
noncomputable def F.pleachref03_place.B (c0 : (Int) → (Int) → Option (Int)) (a0 : Int) : Option (Int) :=
    (c0 a0 0)
theorem F.pleachref03_place.eq K a0 : F.pleachref03_place (K + 1) a0 = F.pleachref03_place.B (F.pleachref03_place.l11010 K K) a0 := (F.pleachref03_place.in_main K a0).trans ((show ∀ H, F.pleachref03_place.in K H [] [] ⟨slots [.sc (.val (.int .u8 a0))] 0, []⟩ = F.pleachref03_place.B (fun a0 x0 => H [1, 1, 0, 1, 0] [K] (F.pleachref03_place.l11010.st a0 x0)) a0 from by intro H; kernel_rfl) (F.pleachref03_place.at K))
noncomputable def V.pleachref03_place.l11010 (a0 : Int) (x0 : Int) := lim fun v => F.pleachref03_place.l11010 (v 0) (v 1) a0 x0
noncomputable def V.pleachref03_place (a0 : Int) := lim fun v => F.pleachref03_place (v 0) a0
theorem V.pleachref03_place.l11010.of a0 x0 {r} (h : F.pleachref03_place.l11010.B V.pleachref03_place.l11010 a0 x0 = some r) : V.pleachref03_place.l11010 a0 x0 = some r :=
  App.to (App.step 1 (fun v => F.pleachref03_place.l11010.eq (v 0) (v 1) a0 x0) (by unfold F.pleachref03_place.l11010.B; repeat' first | apply App.guard | apply App.cond | exact App.lim | exact App.val | exact App.no | apply App.meet | apply App.ite | refine App.bind ?_ fun _ => ?_)) h
theorem V.pleachref03_place.of a0 {r} (h : F.pleachref03_place.B V.pleachref03_place.l11010 a0 = some r) : V.pleachref03_place a0 = some r :=
  App.to (App.step 0 (fun v => F.pleachref03_place.eq (v 0) a0) (by unfold F.pleachref03_place.B; repeat' first | apply App.guard | apply App.cond | exact App.lim | exact (App.enter 1 App.lim) | exact App.val | exact App.no | apply App.meet | apply App.ite | refine App.bind ?_ fun _ => ?_)) h
noncomputable def F.pleachref03_Unhex (K : Nat) (a0 : ByteArray) : Option (ByteArray × Bool) := evFn Tryd.prog sg K 50 [.sc (.val (.string a0))] []
noncomputable def F.pleachref03_Unhex.at (K : Nat) (p ns : List Nat) (s : St) : Option (ByteArray × Bool) := atFn Tryd.prog sg K 50 0 p ns s
noncomputable def F.pleachref03_Unhex.in (K : Nat) (H : List Nat → List Nat → St → Option (ByteArray × Bool)) (p ns : List Nat) (s : St) : Option (ByteArray × Bool) := inFn Tryd.prog sg K 50 0 [] H p ns s
theorem F.pleachref03_Unhex.in_eq K p ns s : F.pleachref03_Unhex.at K p ns s = F.pleachref03_Unhex.in K (F.pleachref03_Unhex.at K) p ns s := atFn_eq (P := Tryd.prog) (sg := sg) (K := K) (f := 50) (m := 0) [] p ns s
theorem F.pleachref03_Unhex.in_main K a0 : F.pleachref03_Unhex (K + 1) a0 = F.pleachref03_Unhex.in K (F.pleachref03_Unhex.at K) [] [] ⟨slots [.sc (.val (.string a0))] 0, []⟩ := evFn_eq (P := Tryd.prog) (sg := sg) (K := K) (f := 50) (args := [.sc (.val (.string a0))]) (σ := []) [] (by kernel_rfl)
def F.pleachref03_Unhex.l11010.st (a0 : ByteArray) (x0 : ByteArray) (x1 : Int) : St := ⟨[(0, vS a0), (4, vS x0), (5, vI x1)], []⟩
noncomputable def F.pleachref03_Unhex.l11010 (K n0 : Nat) (a0 : ByteArray) (x0 : ByteArray) (x1 : Int) := F.pleachref03_Unhex.at K [1, 1, 0, 1, 0] [n0] (F.pleachref03_Unhex.l11010.st a0 x0 x1)
noncomputable def F.pleachref03_Unhex.l11010.B (c0 : (Int) → Option (Int)) (c1 : (ByteArray) → (ByteArray) → (Int) → Option (ByteArray × Bool)) (a0 : ByteArray) (x0 : ByteArray) (x1 : Int) : Option (ByteArray × Bool) :=
    (bif (decide ((w64 (x1 + 1)) < (a0.size : Int))) then (guardK (decide (0 ≤ x1) && decide (x1 < (a0.size : Int))) (guardK (decide (0 ≤ (w64 (x1 + 1))) && decide ((w64 (x1 + 1)) < (a0.size : Int))) ((c0 (byteAt a0 x1)).bind fun t0 => ((c0 (byteAt a0 (w64 (x1 + 1)))).bind fun t1 => (bif (decide (t0 > 15)) then (some ((⟨#[]⟩ : ByteArray), false)) else (bif (decide (t1 > 15)) then (some ((⟨#[]⟩ : ByteArray), false)) else (guardK (decide (x0.size + (bytesOf ([(IntKind.wrap .u8 (w64 ((w64 (16 * t0)) + t1)))])).size ≤ i64max)) (c1 a0 (x0 ++ (bytesOf ([(IntKind.wrap .u8 (w64 ((w64 (16 * t0)) + t1)))]))) (w64 (x1 + 2)))))))))) else (bif ((Int.tmod (a0.size : Int) 2) != 0) then (some ((⟨#[]⟩ : ByteArray), false)) else (some (x0, true))))
theorem F.pleachref03_Unhex.l11010.eq K n0 a0 x0 x1 : F.pleachref03_Unhex.l11010 K (n0 + 1) a0 x0 x1 = F.pleachref03_Unhex.l11010.B (F.pleachref03_place K) (F.pleachref03_Unhex.l11010 K n0) a0 x0 x1 := (F.pleachref03_Unhex.in_eq K [1, 1, 0, 1, 0] [n0 + 1] (F.pleachref03_Unhex.l11010.st a0 x0 x1)).trans ((show ∀ H, F.pleachref03_Unhex.in K H [1, 1, 0, 1, 0] [n0 + 1] (F.pleachref03_Unhex.l11010.st a0 x0 x1) = F.pleachref03_Unhex.l11010.B (F.pleachref03_place K) (fun a0 x0 x1 => H [1, 1, 0, 1, 0] [n0] (F.pleachref03_Unhex.l11010.st a0 x0 x1)) a0 x0 x1 from by intro H; kernel_rfl) (F.pleachref03_Unhex.at K))
noncomputable def F.pleachref03_Unhex.B (c0 : (ByteArray) → (ByteArray) → (Int) → Option (ByteArray × Bool)) (a0 : ByteArray) : Option (ByteArray × Bool) :=
    (c0 a0 (⟨#[]⟩ : ByteArray) 0)
theorem F.pleachref03_Unhex.eq K a0 : F.pleachref03_Unhex (K + 1) a0 = F.pleachref03_Unhex.B (F.pleachref03_Unhex.l11010 K K) a0 := (F.pleachref03_Unhex.in_main K a0).trans ((show ∀ H, F.pleachref03_Unhex.in K H [] [] ⟨slots [.sc (.val (.string a0))] 0, []⟩ = F.pleachref03_Unhex.B (fun a0 x0 x1 => H [1, 1, 0, 1, 0] [K] (F.pleachref03_Unhex.l11010.st a0 x0 x1)) a0 from by intro H; kernel_rfl) (F.pleachref03_Unhex.at K))
noncomputable def V.pleachref03_Unhex.l11010 (a0 : ByteArray) (x0 : ByteArray) (x1 : Int) := lim fun v => F.pleachref03_Unhex.l11010 (v 0) (v 1) a0 x0 x1
noncomputable def V.pleachref03_Unhex (a0 : ByteArray) := lim fun v => F.pleachref03_Unhex (v 0) a0
theorem V.pleachref03_Unhex.l11010.of a0 x0 x1 {r} (h : F.pleachref03_Unhex.l11010.B V.pleachref03_place V.pleachref03_Unhex.l11010 a0 x0 x1 = some r) : V.pleachref03_Unhex.l11010 a0 x0 x1 = some r :=
  App.to (App.step 1 (fun v => F.pleachref03_Unhex.l11010.eq (v 0) (v 1) a0 x0 x1) (by unfold F.pleachref03_Unhex.l11010.B; repeat' first | apply App.guard | apply App.cond | exact App.lim | exact App.val | exact App.no | apply App.meet | apply App.ite | refine App.bind ?_ fun _ => ?_)) h
theorem V.pleachref03_Unhex.of a0 {r} (h : F.pleachref03_Unhex.B V.pleachref03_Unhex.l11010 a0 = some r) : V.pleachref03_Unhex a0 = some r :=
  App.to (App.step 0 (fun v => F.pleachref03_Unhex.eq (v 0) a0) (by unfold F.pleachref03_Unhex.B; repeat' first | apply App.guard | apply App.cond | exact App.lim | exact (App.enter 1 App.lim) | exact App.val | exact App.no | apply App.meet | apply App.ite | refine App.bind ?_ fun _ => ?_)) h
noncomputable def F.pleachref06_number (K : Nat) (a0 : ByteArray) : Option (Int × Bool) := evFn Tryd.prog sg K 51 [.sc (.val (.string a0))] []
noncomputable def F.pleachref06_number.at (K : Nat) (p ns : List Nat) (s : St) : Option (Int × Bool) := atFn Tryd.prog sg K 51 0 p ns s
noncomputable def F.pleachref06_number.in (K : Nat) (H : List Nat → List Nat → St → Option (Int × Bool)) (p ns : List Nat) (s : St) : Option (Int × Bool) := inFn Tryd.prog sg K 51 0 [] H p ns s
theorem F.pleachref06_number.in_eq K p ns s : F.pleachref06_number.at K p ns s = F.pleachref06_number.in K (F.pleachref06_number.at K) p ns s := atFn_eq (P := Tryd.prog) (sg := sg) (K := K) (f := 51) (m := 0) [] p ns s
theorem F.pleachref06_number.in_main K a0 : F.pleachref06_number (K + 1) a0 = F.pleachref06_number.in K (F.pleachref06_number.at K) [] [] ⟨slots [.sc (.val (.string a0))] 0, []⟩ := evFn_eq (P := Tryd.prog) (sg := sg) (K := K) (f := 51) (args := [.sc (.val (.string a0))]) (σ := []) [] (by kernel_rfl)
def F.pleachref06_number.l1111010.st (a0 : ByteArray) (x0 : Int) (x1 : Int) : St := ⟨[(0, vS a0), (4, vB ((byteAt a0 0) == 45)), (5, vI x0), (6, vI x1)], []⟩
noncomputable def F.pleachref06_number.l1111010 (K n0 : Nat) (a0 : ByteArray) (x0 : Int) (x1 : Int) := F.pleachref06_number.at K [1, 1, 1, 1, 0, 1, 0] [n0] (F.pleachref06_number.l1111010.st a0 x0 x1)
noncomputable def F.pleachref06_number.l1111010.B (c0 : (ByteArray) → (Int) → (Int) → Option (Int × Bool)) (a0 : ByteArray) (x0 : Int) (x1 : Int) : Option (Int × Bool) :=
    (bif (decide (x1 < (a0.size : Int))) then (bif (x1 == 0) then (bif ((byteAt a0 0) == 45) then (c0 a0 x0 (w64 (x1 + 1))) else (guardK (decide (0 ≤ x1) && decide (x1 < (a0.size : Int))) (bif (decide ((byteAt a0 x1) < 48)) then (some (0, false)) else (guardK (decide (0 ≤ x1) && decide (x1 < (a0.size : Int))) (bif (decide ((byteAt a0 x1) > 57)) then (some (0, false)) else (guardK (decide (0 ≤ x1) && decide (x1 < (a0.size : Int))) (bif ((byteAt a0 0) == 45) then (c0 a0 (w64 ((w64 (x0 * 10)) - (w64 ((w64 (byteAt a0 x1)) - 48)))) (w64 (x1 + 1))) else (c0 a0 (w64 ((w64 (x0 * 10)) + (w64 ((w64 (byteAt a0 x1)) - 48)))) (w64 (x1 + 1)))))))))) else (guardK (decide (0 ≤ x1) && decide (x1 < (a0.size : Int))) (bif (decide ((byteAt a0 x1) < 48)) then (some (0, false)) else (guardK (decide (0 ≤ x1) && decide (x1 < (a0.size : Int))) (bif (decide ((byteAt a0 x1) > 57)) then (some (0, false)) else (guardK (decide (0 ≤ x1) && decide (x1 < (a0.size : Int))) (bif ((byteAt a0 0) == 45) then (c0 a0 (w64 ((w64 (x0 * 10)) - (w64 ((w64 (byteAt a0 x1)) - 48)))) (w64 (x1 + 1))) else (c0 a0 (w64 ((w64 (x0 * 10)) + (w64 ((w64 (byteAt a0 x1)) - 48)))) (w64 (x1 + 1)))))))))) else (some (x0, true)))
theorem F.pleachref06_number.l1111010.eq K n0 a0 x0 x1 : F.pleachref06_number.l1111010 K (n0 + 1) a0 x0 x1 = F.pleachref06_number.l1111010.B (F.pleachref06_number.l1111010 K n0) a0 x0 x1 := (F.pleachref06_number.in_eq K [1, 1, 1, 1, 0, 1, 0] [n0 + 1] (F.pleachref06_number.l1111010.st a0 x0 x1)).trans ((show ∀ H, F.pleachref06_number.in K H [1, 1, 1, 1, 0, 1, 0] [n0 + 1] (F.pleachref06_number.l1111010.st a0 x0 x1) = F.pleachref06_number.l1111010.B (fun a0 x0 x1 => H [1, 1, 1, 1, 0, 1, 0] [n0] (F.pleachref06_number.l1111010.st a0 x0 x1)) a0 x0 x1 from by intro H; kernel_rfl) (F.pleachref06_number.at K))
noncomputable def F.pleachref06_number.B (c0 : (ByteArray) → (Int) → (Int) → Option (Int × Bool)) (a0 : ByteArray) : Option (Int × Bool) :=
    (bif ((a0.size : Int) == 0) then (some (0, false)) else (bif (decide ((a0.size : Int) > 20)) then (some (0, false)) else (guardK (decide (0 < (a0.size : Int))) (c0 a0 0 0))))
theorem F.pleachref06_number.eq K a0 : F.pleachref06_number (K + 1) a0 = F.pleachref06_number.B (F.pleachref06_number.l1111010 K K) a0 := (F.pleachref06_number.in_main K a0).trans ((show ∀ H, F.pleachref06_number.in K H [] [] ⟨slots [.sc (.val (.string a0))] 0, []⟩ = F.pleachref06_number.B (fun a0 x0 x1 => H [1, 1, 1, 1, 0, 1, 0] [K] (F.pleachref06_number.l1111010.st a0 x0 x1)) a0 from by intro H; kernel_rfl) (F.pleachref06_number.at K))
noncomputable def V.pleachref06_number.l1111010 (a0 : ByteArray) (x0 : Int) (x1 : Int) := lim fun v => F.pleachref06_number.l1111010 (v 0) (v 1) a0 x0 x1
noncomputable def V.pleachref06_number (a0 : ByteArray) := lim fun v => F.pleachref06_number (v 0) a0
theorem V.pleachref06_number.l1111010.of a0 x0 x1 {r} (h : F.pleachref06_number.l1111010.B V.pleachref06_number.l1111010 a0 x0 x1 = some r) : V.pleachref06_number.l1111010 a0 x0 x1 = some r :=
  App.to (App.step 1 (fun v => F.pleachref06_number.l1111010.eq (v 0) (v 1) a0 x0 x1) (by unfold F.pleachref06_number.l1111010.B; repeat' first | apply App.guard | apply App.cond | exact App.lim | exact App.val | exact App.no | apply App.meet | apply App.ite | refine App.bind ?_ fun _ => ?_)) h
theorem V.pleachref06_number.of a0 {r} (h : F.pleachref06_number.B V.pleachref06_number.l1111010 a0 = some r) : V.pleachref06_number a0 = some r :=
  App.to (App.step 0 (fun v => F.pleachref06_number.eq (v 0) a0) (by unfold F.pleachref06_number.B; repeat' first | apply App.guard | apply App.cond | exact App.lim | exact (App.enter 1 App.lim) | exact App.val | exact App.no | apply App.meet | apply App.ite | refine App.bind ?_ fun _ => ?_)) h
noncomputable def F.pleachref06_Parse (K : Nat) (a0 : ByteArray) : Option (TValue × Bool) := evFn Tryd.prog sg K 25 [.sc (.val (.string a0))] []
noncomputable def F.pleachref06_Parse.B (c0 : (TValue) → Option (ByteArray)) (c1 : (ByteArray) → Option (ByteArray × Bool)) (c2 : (ByteArray) → Option (Int × Bool)) (a0 : ByteArray) : Option (TValue × Bool) :=
    (bif (strEq a0 (⟨#[116, 114, 117, 101]⟩ : ByteArray)) then (bif (strEq a0 (⟨#[116, 114, 117, 101]⟩ : ByteArray)) then (some ((1, 1, (⟨#[]⟩ : ByteArray)), true)) else (some ((1, 0, (⟨#[]⟩ : ByteArray)), true))) else (bif (strEq a0 (⟨#[102, 97, 108, 115, 101]⟩ : ByteArray)) then (bif (strEq a0 (⟨#[116, 114, 117, 101]⟩ : ByteArray)) then (some ((1, 1, (⟨#[]⟩ : ByteArray)), true)) else (some ((1, 0, (⟨#[]⟩ : ByteArray)), true))) else (bif (decide ((a0.size : Int) > 0)) then (guardK (decide (0 < (a0.size : Int))) (bif ((byteAt a0 0) == 39) then (guardK (decide (1 ≤ (a0.size : Int)) && decide ((a0.size : Int) ≤ (a0.size : Int))) ((c0 (3, 0, (a0.extract 1 (a0.size : Int).toNat))).bind fun t0 => (bif (!strEq t0 a0) then (some ((0, 0, (⟨#[]⟩ : ByteArray)), false)) else (some ((3, 0, (a0.extract 1 (a0.size : Int).toNat)), true))))) else (bif (decide ((a0.size : Int) > 0)) then (guardK (decide (0 < (a0.size : Int))) (bif ((byteAt a0 0) == 35) then (guardK (decide (1 ≤ (a0.size : Int)) && decide ((a0.size : Int) ≤ (a0.size : Int))) ((c1 (a0.extract 1 (a0.size : Int).toNat)).bind fun t1 => (bif (!t1.2) then (some ((0, 0, (⟨#[]⟩ : ByteArray)), false)) else ((c0 (3, 0, t1.1)).bind fun t2 => (bif (!strEq t2 a0) then (some ((0, 0, (⟨#[]⟩ : ByteArray)), false)) else (some ((3, 0, t1.1), true))))))) else ((c2 a0).bind fun t3 => (bif (!t3.2) then (some ((0, 0, (⟨#[]⟩ : ByteArray)), false)) else ((c0 (2, t3.1, (⟨#[]⟩ : ByteArray))).bind fun t4 => (bif (!strEq t4 a0) then (some ((0, 0, (⟨#[]⟩ : ByteArray)), false)) else (some ((2, t3.1, (⟨#[]⟩ : ByteArray)), true)))))))) else ((c2 a0).bind fun t5 => (bif (!t5.2) then (some ((0, 0, (⟨#[]⟩ : ByteArray)), false)) else ((c0 (2, t5.1, (⟨#[]⟩ : ByteArray))).bind fun t6 => (bif (!strEq t6 a0) then (some ((0, 0, (⟨#[]⟩ : ByteArray)), false)) else (some ((2, t5.1, (⟨#[]⟩ : ByteArray)), true))))))))) else (bif (decide ((a0.size : Int) > 0)) then (guardK (decide (0 < (a0.size : Int))) (bif ((byteAt a0 0) == 35) then (guardK (decide (1 ≤ (a0.size : Int)) && decide ((a0.size : Int) ≤ (a0.size : Int))) ((c1 (a0.extract 1 (a0.size : Int).toNat)).bind fun t7 => (bif (!t7.2) then (some ((0, 0, (⟨#[]⟩ : ByteArray)), false)) else ((c0 (3, 0, t7.1)).bind fun t8 => (bif (!strEq t8 a0) then (some ((0, 0, (⟨#[]⟩ : ByteArray)), false)) else (some ((3, 0, t7.1), true))))))) else ((c2 a0).bind fun t9 => (bif (!t9.2) then (some ((0, 0, (⟨#[]⟩ : ByteArray)), false)) else ((c0 (2, t9.1, (⟨#[]⟩ : ByteArray))).bind fun t10 => (bif (!strEq t10 a0) then (some ((0, 0, (⟨#[]⟩ : ByteArray)), false)) else (some ((2, t9.1, (⟨#[]⟩ : ByteArray)), true)))))))) else ((c2 a0).bind fun t11 => (bif (!t11.2) then (some ((0, 0, (⟨#[]⟩ : ByteArray)), false)) else ((c0 (2, t11.1, (⟨#[]⟩ : ByteArray))).bind fun t12 => (bif (!strEq t12 a0) then (some ((0, 0, (⟨#[]⟩ : ByteArray)), false)) else (some ((2, t11.1, (⟨#[]⟩ : ByteArray)), true))))))))))
theorem F.pleachref06_Parse.eq K a0 : F.pleachref06_Parse (K + 1) a0 = F.pleachref06_Parse.B (F.pleachref06_Show K) (F.pleachref03_Unhex K) (F.pleachref06_number K) a0 := by kernel_rfl
noncomputable def V.pleachref06_Parse (a0 : ByteArray) := lim fun v => F.pleachref06_Parse (v 0) a0
theorem V.pleachref06_Parse.of a0 {r} (h : F.pleachref06_Parse.B V.pleachref06_Show V.pleachref03_Unhex V.pleachref06_number a0 = some r) : V.pleachref06_Parse a0 = some r :=
  App.to (App.step 0 (fun v => F.pleachref06_Parse.eq (v 0) a0) (by unfold F.pleachref06_Parse.B; repeat' first | apply App.guard | apply App.cond | exact App.lim | exact App.val | exact App.no | apply App.meet | apply App.ite | refine App.bind ?_ fun _ => ?_)) h
noncomputable def F.pleachlaw06_ValueParses (K : Nat) (a0 : ByteArray) : Option (Bool) := evFn Tryd.prog sg K 6 [.sc (.val (.string a0))] []
noncomputable def F.pleachlaw06_ValueParses.B (c0 : Option (Bool)) (c1 : (ByteArray) → Option (TValue × Int)) (c2 : (ByteArray) → Option (TValue × Bool)) (a0 : ByteArray) : Option (Bool) :=
    (bif (decide ((a0.size : Int) > 1000)) then ((c0).bind fun t0 => (some t0)) else ((c1 a0).bind fun t1 => ((c2 a0).bind fun t2 => (bif ((t1.1.1 == t2.1.1) && ((t1.1.2.1 == t2.1.2.1) && ((strEq t1.1.2.2 t2.1.2.2) && true))) then (bif ((t1.2 == 0) == t2.2) then (bif t2.2 then ((c0).bind fun t3 => (some t3)) else (bif (t1.2 == 3) then ((c0).bind fun t4 => (some t4)) else (some false))) else (some false)) else (some false)))))
theorem F.pleachlaw06_ValueParses.eq K a0 : F.pleachlaw06_ValueParses (K + 1) a0 = F.pleachlaw06_ValueParses.B (F.pleachlaw06_awake K) (F.value_Parse K) (F.pleachref06_Parse K) a0 := by kernel_rfl
noncomputable def V.pleachlaw06_ValueParses (a0 : ByteArray) := lim fun v => F.pleachlaw06_ValueParses (v 0) a0
theorem V.pleachlaw06_ValueParses.of a0 {r} (h : F.pleachlaw06_ValueParses.B V.pleachlaw06_awake V.value_Parse V.pleachref06_Parse a0 = some r) : V.pleachlaw06_ValueParses a0 = some r :=
  App.to (App.step 0 (fun v => F.pleachlaw06_ValueParses.eq (v 0) a0) (by unfold F.pleachlaw06_ValueParses.B; repeat' first | apply App.guard | apply App.cond | exact App.lim | exact App.val | exact App.no | apply App.meet | apply App.ite | refine App.bind ?_ fun _ => ?_)) h
end Go.Proofs.YthnhkaaodghpgaaDoor.AE
end
section
set_option linter.unusedVariables false
set_option linter.unusedSimpArgs false
namespace Go.Proofs.YthnhkaaodghpgaaDoor.AE
open Go

theorem w64_id {x : Int} (h0 : -9223372036854775808 ≤ x) (h1 : x ≤ 9223372036854775807) : w64 x = x := by
  show IntKind.i64.wrap x = x
  simp [IntKind.wrap, IntKind.bits, IntKind.signed]
  omega
theorem u64_id {x : Int} (h0 : 0 ≤ x) (h1 : x ≤ 18446744073709551615) : IntKind.wrap .u64 x = x := by
  have : IntKind.u64.wrap x = x % 18446744073709551616 := by simp [IntKind.wrap, IntKind.bits, IntKind.signed]
  rw [this]; omega
theorem u64_mod (x : Int) : IntKind.wrap .u64 x = x % 18446744073709551616 := by simp [IntKind.wrap, IntKind.bits, IntKind.signed]
theorem u8_mod (x : Int) : IntKind.wrap .u8 x = x % 256 := by simp [IntKind.wrap, IntKind.bits, IntKind.signed]
theorem w64_up {i n : Nat} (h : i < n) (hn : n ≤ 140737488351232) : w64 ((i : Int) + 1) = ((i + 1 : Nat) : Int) := by rw [w64_id (by omega) (by omega)]; omega
theorem guard_of {α : Type} {g : Bool} {a : Option α} (h : g = true) : guardK g a = a := by rw [h]; rfl
theorem guard_dec {α : Type} {p : Prop} [Decidable p] {a : Option α} (h : p) : guardK (decide p) a = a := guard_of (decide_eq_true h)
/-- Inside a row. -/
theorem guard_in {α : Type} {i n : Nat} {a : Option α} (h : i < n) : guardK (decide (0 ≤ (i : Int)) && decide ((i : Int) < (n : Int))) a = a := guard_of (by simp [h])
theorem if_in {α : Type} {i n : Nat} {a b : α} (h : i < n) : (bif decide ((i : Int) < (n : Int)) then a else b) = a := by simp [h]
theorem if_out {α : Type} {i n : Nat} {a b : α} (h : n ≤ i) : (bif decide ((i : Int) < (n : Int)) then a else b) = b := by simp [Nat.not_lt.2 h]
theorem if_yes {α : Type} {p : Prop} [Decidable p] {a b : α} (h : p) : (bif decide p then a else b) = a := by simp [h]
theorem if_no {α : Type} {p : Prop} [Decidable p] {a b : α} (h : ¬ p) : (bif decide p then a else b) = b := by simp [h]
theorem nat_cast (i : Nat) : ((i : Nat) : Int).toNat = i := rfl
theorem data_len (s : ByteArray) : s.data.toList.length = s.size := by rw [Array.length_toList]; rfl
theorem toList_size (s : ByteArray) : s.toList.length = s.size := by rw [ByteArray.toList_eq]; exact data_len s
theorem toList_nil {s : ByteArray} : s.toList = [] ↔ s.size = 0 := by
  rw [← toList_size, List.length_eq_zero_iff]
theorem bytes_ext {s t : ByteArray} (h : s.toList = t.toList) : s = t := by
  rw [ByteArray.toList_eq, ByteArray.toList_eq] at h
  have : s.data = t.data := by rwa [← Array.toList_inj]
  cases s; cases t; simp_all
theorem strEq_iff {s t : ByteArray} : strEq s t = true ↔ s = t := by
  unfold strEq
  rw [beq_iff_eq]
  exact ⟨bytes_ext, fun h => by rw [h]⟩
theorem strEq_self (s : ByteArray) : strEq s s = true := strEq_iff.2 rfl
theorem strEq_no {s t : ByteArray} (h : s ≠ t) : strEq s t = false := by
  cases hb : strEq s t with
  | false => rfl
  | true => exact absurd (strEq_iff.1 hb) h
theorem strEq_dec (s t : ByteArray) : strEq s t = decide (s = t) := by
  by_cases h : s = t
  · rw [h, strEq_self]; simp
  · rw [strEq_no h]; simp [h]
/-! ### The order of texts -/

theorem size_zero {s : ByteArray} (h : s.size = 0) : s = (⟨#[]⟩ : ByteArray) := by
  apply bytes_ext
  rw [toList_nil.2 h]
  exact (toList_nil.2 rfl).symm
theorem strEq_nil (s : ByteArray) : strEq s (⟨#[]⟩ : ByteArray) = (s.size == 0) := by
  rw [Bool.eq_iff_iff, strEq_iff]
  simp only [beq_iff_eq]
  exact ⟨fun h => by rw [h]; rfl, size_zero⟩
theorem strOfNums_size (xs : List Int) : (bytesOf xs).size = xs.length := by unfold bytesOf; simp [ByteArray.size]
theorem strOfNums_append (xs ys : List Int) : bytesOf (xs ++ ys) = bytesOf xs ++ bytesOf ys := by
  apply ByteArray.ext
  simp [bytesOf]
theorem bt_data (s : ByteArray) (i : Nat) (h : i < s.size) : byteAt s (i : Int) = ((s.data.toList[i]'(by rw [Array.length_toList]; exact h)).toNat : Int) := by
  show (((s.data.toList.getD (i : Int).toNat 0).toNat : Nat) : Int) = _
  rw [nat_cast, List.getD_eq_getElem?_getD, List.getElem?_eq_getElem (by rw [data_len]; exact h)]
  rfl
theorem extract_size (s : ByteArray) (a b : Nat) : (s.extract a b).size ≤ s.size := by
  rw [ByteArray.size_extract]; omega

end Go.Proofs.YthnhkaaodghpgaaDoor.AE
end
section
set_option linter.unusedVariables false
set_option linter.unusedSimpArgs false
namespace Go.Proofs.YthnhkaaodghpgaaDoor.AE
open Go

def valueB (v : TValue) : Bool := (v.1 == 1 && (v.2.1 == 0 || v.2.1 == 1) && v.2.2.size == 0) || (v.1 == 2 && v.2.2.size == 0) || (v.1 == 3 && v.2.1 == 0 && decide (v.2.2.size ≤ 64))
theorem value_Check_ok (v : TValue) : V.value_Check v = some (if valueB v then 0 else 2) := by
  refine V.value_Check.of _ ?_
  obtain ⟨a, b, s⟩ := v
  unfold F.value_Check.B valueB
  simp only [strEq_nil]
  by_cases a1 : a = 1
  · subst a1
    by_cases b0 : b = 0 <;> by_cases b1 : b = 1 <;> by_cases s0 : s.size = 0 <;> simp [Bool.cond_eq_ite, b0, b1, s0]
  · by_cases a2 : a = 2
    · subst a2
      by_cases s0 : s.size = 0 <;> simp [Bool.cond_eq_ite, s0]
    · by_cases a3 : a = 3
      · subst a3
        by_cases b0 : b = 0 <;> by_cases s0 : s.size ≤ 64 <;> simp [Bool.cond_eq_ite, b0, s0] <;> omega
      · simp [Bool.cond_eq_ite, a1, a2, a3]
theorem refVIs_ok (v : TValue) : V.pleachref06_Is v = some (valueB v) := by
  refine V.pleachref06_Is.of _ ?_
  obtain ⟨a, b, s⟩ := v
  unfold F.pleachref06_Is.B valueB
  simp only [strEq_nil]
  by_cases a1 : a = 1
  · subst a1
    by_cases s0 : s.size = 0 <;> by_cases b0 : b ≥ 0 <;> by_cases b1 : b ≤ 1 <;> simp [Bool.cond_eq_ite, b0, b1, s0] <;> omega
  · by_cases a2 : a = 2
    · subst a2
      by_cases s0 : s.size = 0 <;> simp [Bool.cond_eq_ite, s0]
    · by_cases a3 : a = 3
      · subst a3
        by_cases b0 : b = 0 <;> by_cases s0 : s.size ≤ 64 <;> simp [Bool.cond_eq_ite, b0, s0] <;> omega
      · simp [Bool.cond_eq_ite, a1, a2, a3]

/-! ### Rows that rise -/

end Go.Proofs.YthnhkaaodghpgaaDoor.AE
end
section
set_option linter.unusedVariables false
set_option linter.unusedSimpArgs false
namespace Go.Proofs.YthnhkaaodghpgaaDoor.AE
open Go

/-- A number's bytes, seven bits a byte, 128 more in all but the last. -/
def vput : Nat → Nat → List Int
  | 0, _ => []
  | f + 1, n => if n < 128 then [(n : Int)] else ((n % 128 + 128 : Nat) : Int) :: vput f (n / 128)
theorem vput_len : ∀ f n : Nat, (vput f n).length ≤ f
  | 0, _ => by simp [vput]
  | f + 1, n => by
    unfold vput
    split
    · simp
    · have := vput_len f (n / 128)
      simp
      omega
def numB (n : Nat) : ByteArray := bytesOf (vput 10 n)
theorem numB_size (n : Nat) : (numB n).size ≤ 10 := by unfold numB; rw [strOfNums_size]; exact vput_len 10 n
theorem or128 (c : Int) (h0 : 0 ≤ c) (h1 : c < 256) : (((BitVec.ofInt 8 c ||| BitVec.ofInt 8 128).toNat : Nat) : Int) = c % 128 + 128 := by
  obtain ⟨n, rfl⟩ := Int.eq_ofNat_of_zero_le h0
  have key : ∀ m : Fin 256, (BitVec.ofInt 8 (m.1 : Int) ||| BitVec.ofInt 8 128).toNat = m.1 % 128 + 128 := by decide +kernel
  have := key ⟨n, by omega⟩
  simp only at this
  rw [this]
  omega
theorem repl_len {α : Type} (a : α) : ∀ n, (repl n a).length = n
  | 0 => rfl
  | n + 1 => by simp [repl, repl_len a n]
theorem take_set_succ {α : Type} (l : List α) (i : Nat) (x : α) (h : i < l.length) : (l.set i x).take (i + 1) = l.take i ++ [x] := by
  rw [List.take_add_one, List.take_set, List.set_eq_of_length_le (by rw [List.length_take]; omega)]
  simp [h]
theorem varint_Put_l (a : Int) : ∀ (f n i : Nat) (arr : List Int), n < 128 ^ (f + 1) → i + f + 1 ≤ 10 → arr.length = 10 → V.varint_Put.l11100 a (n : Int) (i : Int) arr = some (bytesOf (arr.take i ++ vput (f + 1) n))
  | f, n, i, arr, hn, hi, ha => by
    refine V.varint_Put.l11100.of _ _ _ _ ?_
    unfold F.varint_Put.l11100.B
    have e7 : Int.fdiv (n : Int) (2 ^ 7) = ((n / 128 : Nat) : Int) := by rw [Int.fdiv_eq_ediv_of_nonneg _ (by decide)]; rfl
    rw [e7, w64_id (x := (i : Int) + 1) (by omega) (by omega)]
    simp only [u8_mod]
    by_cases h : n < 128
    · rw [if_no (by omega), guard_of (by simp [ha]; omega), guard_of (by simp [ha]; omega)]
      have e1 : (n : Int) % 256 = n := by omega
      have e2 : ((i : Int) + 1).toNat = i + 1 := rfl
      rw [e1, e2, nat_cast, List.drop_zero, take_set_succ _ _ _ (by omega)]
      have e3 : vput (f + 1) n = [(n : Int)] := by unfold vput; rw [if_pos h]
      rw [e3]
    · cases f with
      | zero => simp at hn; omega
      | succ f =>
        rw [if_yes (by omega), guard_of (by simp [ha]; omega), or128 _ (by omega) (by omega), nat_cast]
        have ih := varint_Put_l a f (n / 128) (i + 1) (arr.set i (((n : Int) % 256 % 128 + 128) % 256)) (by rw [Nat.pow_succ] at hn; exact Nat.div_lt_of_lt_mul (by omega)) (by omega) (by simp [ha])
        rw [show ((i : Int) + 1) = ((i + 1 : Nat) : Int) by omega, ih, take_set_succ _ _ _ (by omega)]
        have e3 : vput (f + 1 + 1) n = ((n % 128 + 128 : Nat) : Int) :: vput (f + 1) (n / 128) := by rw [vput, if_neg h]
        rw [e3, List.append_assoc]
        have e4 : ((n : Int) % 256 % 128 + 128) % 256 = ((n % 128 + 128 : Nat) : Int) := by omega
        rw [e4]
        rfl
theorem varint_Put_ok {n : Nat} (h1 : n < 18446744073709551616) : V.varint_Put (n : Int) = some (numB n) := by
  refine V.varint_Put.of _ ?_
  unfold F.varint_Put.B
  have := varint_Put_l (n : Int) 9 n 0 (repl 10 0) (by omega) (by omega) (repl_len _ _)
  rw [show (0 : Int) = ((0 : Nat) : Int) from rfl] at this ⊢
  rw [this]
  rfl
theorem Put_eq {n : Int} (h0 : 0 ≤ n) (h1 : n < 18446744073709551616) : V.varint_Put n = some (numB n.toNat) := by
  obtain ⟨m, rfl⟩ := Int.eq_ofNat_of_zero_le h0
  exact varint_Put_ok (by omega)

theorem one_size (c : Int) : (bytesOf [c]).size = 1 := strOfNums_size [c]
theorem xor_zero (x : Int) (h0 : 0 ≤ x) (h1 : x < 18446744073709551616) : (((BitVec.ofInt 64 x ^^^ BitVec.ofInt 64 0).toNat : Nat) : Int) = x := by
  obtain ⟨n, rfl⟩ := Int.eq_ofNat_of_zero_le h0
  have e2 : (BitVec.ofInt 64 (n : Int) ^^^ BitVec.ofInt 64 0).toNat = n := by
    have : BitVec.ofInt 64 0 = 0#64 := rfl
    rw [this, BitVec.xor_zero, BitVec.toNat_ofInt]
    omega
  rw [e2]
theorem xor_ones (x : Int) (h0 : 0 ≤ x) (h1 : x < 18446744073709551616) : (((BitVec.ofInt 64 x ^^^ BitVec.ofInt 64 18446744073709551615).toNat : Nat) : Int) = 18446744073709551615 - x := by
  obtain ⟨n, rfl⟩ := Int.eq_ofNat_of_zero_le h0
  have : BitVec.ofInt 64 18446744073709551615 = BitVec.allOnes 64 := by decide
  rw [this, BitVec.xor_allOnes, BitVec.toNat_not, BitVec.toNat_ofInt]
  omega
/-- A number's place among 0, -1, 1, -2, 2. -/
def zig (a : Int) : Int := if 0 ≤ a then 2 * a else -2 * a - 1
theorem zig_bound {a : Int} (h0 : -9223372036854775808 ≤ a) (h1 : a ≤ 9223372036854775807) : 0 ≤ zig a ∧ zig a < 18446744073709551616 := by unfold zig; split <;> omega
theorem zig_ok {a : Int} (h0 : -9223372036854775808 ≤ a) (h1 : a ≤ 9223372036854775807) : V.varint_Zig a = some (zig a) := by
  refine V.varint_Zig.of _ ?_
  unfold F.varint_Zig.B zig
  have e1 : (2 : Int) ^ 1 = 2 := rfl
  have e2 : Int.fdiv a (2 ^ 63) = a / 9223372036854775808 := by rw [Int.fdiv_eq_ediv_of_nonneg _ (by decide)]; rfl
  congr 1
  rw [e1, e2]
  by_cases h : 0 ≤ a
  · rw [if_pos h, u64_id (x := a) (by omega) (by omega), u64_id (x := a * 2) (by omega) (by omega), show a / 9223372036854775808 = 0 by omega, u64_id (x := 0) (by omega) (by omega), xor_zero _ (by omega) (by omega), u64_id (by omega) (by omega)]
    omega
  · rw [if_neg h, show a / 9223372036854775808 = -1 by omega]
    have e1 : IntKind.wrap .u64 a = a + 18446744073709551616 := by rw [u64_mod]; omega
    have e2 : IntKind.wrap .u64 (-1) = 18446744073709551615 := by rw [u64_mod]; rfl
    have e3 : IntKind.wrap .u64 ((a + 18446744073709551616) * 2) = 2 * a + 18446744073709551616 := by rw [u64_mod]; omega
    rw [e1, e2, e3, xor_ones _ (by omega) (by omega), u64_id (by omega) (by omega)]
    omega
/-- A text's bytes: how many it has, and these. -/
def textB (s : ByteArray) : ByteArray := numB s.size ++ s
theorem textB_size (s : ByteArray) : (textB s).size ≤ 10 + s.size := by
  unfold textB
  rw [ByteArray.size_append]
  have := numB_size s.size
  omega
theorem PutText_ok (s : ByteArray) (hs : s.size ≤ 140737488351232) : V.scan_PutText s = some (textB s) := by
  refine V.scan_PutText.of _ ?_
  unfold F.scan_PutText.B
  have := numB_size s.size
  rw [u64_id (by omega) (by omega), varint_Put_ok (by omega), Option.bind_some, guard_dec (by simp [i64max]; omega)]
  rfl
/-- A value's bytes. -/
def valB (v : TValue) : ByteArray :=
  if valueB v = true then
    (if v.1 = 1 then bytesOf [1, v.2.1] else if v.1 = 2 then bytesOf [2] ++ numB (zig v.2.1).toNat else bytesOf [3] ++ textB v.2.2)
  else ⟨#[]⟩
theorem value_Put_ok (v : TValue) (hb : -9223372036854775808 ≤ v.2.1 ∧ v.2.1 ≤ 9223372036854775807) : V.value_Put v = some (valB v, if valueB v then 0 else 2) := by
  refine V.value_Put.of _ ?_
  obtain ⟨a, b, s⟩ := v
  unfold F.value_Put.B
  simp only at hb ⊢
  rw [value_Check_ok, Option.bind_some]
  unfold valB
  cases hv : valueB (a, b, s) with
  | false => simp
  | true =>
    simp only [if_true]
    unfold valueB at hv
    by_cases a1 : a = 1
    · subst a1
      simp at hv
      have hb2 : b % 256 = b := by omega
      simp only [u8_mod, hb2]
      rw [guard_dec (by rw [one_size, one_size]; simp [i64max]), ← strOfNums_append]
      rfl
    · by_cases a2 : a = 2
      · subst a2
        have hz := zig_bound hb.1 hb.2
        have e : V.scan_PutInt b = some (numB (zig b).toNat) := by
          refine V.scan_PutInt.of _ ?_
          unfold F.scan_PutInt.B
          have : V.varint_Int b = some (numB (zig b).toNat) := by
            refine V.varint_Int.of _ ?_
            unfold F.varint_Int.B
            rw [zig_ok hb.1 hb.2, Option.bind_some, Put_eq hz.1 hz.2, Option.bind_some]
          rw [this, Option.bind_some]
        have := numB_size (zig b).toNat
        rw [e, Option.bind_some, guard_dec (p := _ ≤ _) (a := some (bytesOf [_] ++ numB (zig b).toNat, (0 : Int))) (by rw [one_size]; simp [i64max]; omega)]
        simp [u8_mod]
      · have a3 : a = 3 := by simp [a1, a2] at hv; exact hv.1.1
        have h64 : s.size ≤ 64 := by simp [a1, a2] at hv; exact hv.2
        subst a3
        have := textB_size s
        rw [PutText_ok s (by omega), Option.bind_some, guard_dec (p := _ ≤ _) (a := some (bytesOf [_] ++ textB s, (0 : Int))) (by rw [one_size]; simp [i64max]; omega)]
        simp [u8_mod]
end Go.Proofs.YthnhkaaodghpgaaDoor.AE
end
section
set_option linter.unusedVariables false
set_option linter.unusedSimpArgs false
namespace Go.Proofs.YthnhkaaodghpgaaDoor.AE
open Go

end Go.Proofs.YthnhkaaodghpgaaDoor.AE
end
section
set_option linter.unusedVariables false
set_option linter.unusedSimpArgs false
namespace Go.Proofs.YthnhkaaodghpgaaDoor.AE
open Go

theorem app_nil (s : ByteArray) : s ++ (⟨#[]⟩ : ByteArray) = s := by apply ByteArray.ext; simp
theorem nil_app (s : ByteArray) : (⟨#[]⟩ : ByteArray) ++ s = s := by apply ByteArray.ext; simp
/-! ### Nodes and edges -/

end Go.Proofs.YthnhkaaodghpgaaDoor.AE
end
section
set_option linter.unusedVariables false
set_option linter.unusedSimpArgs false
set_option maxRecDepth 4000
namespace Go.Proofs.YthnhkaaodghpgaaDoor.AE
open Go

theorem bt_range (s : ByteArray) (i : Int) : 0 ≤ byteAt s i ∧ byteAt s i < 256 := by
  unfold byteAt
  have := UInt8.toNat_lt (s.data.toList.getD i.toNat 0)
  omega
/-! lists of bytes that are one number's -/
def isBytes (l : List Int) : Prop := ∀ x ∈ l, 0 ≤ x ∧ x < 256
/-- d bytes from place i on. -/
def bl (s : ByteArray) : Nat → Nat → List Int
  | 0, _ => []
  | d + 1, i => byteAt s (i : Int) :: bl s d (i + 1)
theorem bl_snoc (s : ByteArray) : ∀ d i, bl s (d + 1) i = bl s d i ++ [byteAt s ((i + d : Nat) : Int)]
  | 0, i => by simp [bl]
  | d + 1, i => by
    have := bl_snoc s d (i + 1)
    rw [bl, this, bl]
    simp
    congr 1
    omega
theorem bt_of (s : ByteArray) (i : Nat) (h : i < s.size) : UInt8.ofNat (byteAt s (i : Int)).toNat = s.data.toList[i]'(by rw [Array.length_toList]; exact h) := by
  rw [bt_data s i h, Int.toNat_natCast, UInt8.ofNat_toNat]
theorem bytesOf_bl (s : ByteArray) : ∀ d, d ≤ s.size → bytesOf (bl s d 0) = s.extract 0 d
  | 0, _ => by
    apply ByteArray.ext
    simp [bl, bytesOf]
  | d + 1, h => by
    have ih := bytesOf_bl s d (by omega)
    rw [bl_snoc, strOfNums_append, ih, Nat.zero_add]
    apply ByteArray.ext
    apply Array.ext'
    have hl : s.data.toList.length = s.size := by rw [Array.length_toList]; rfl
    simp only [bytesOf, ByteArray.data_append, ByteArray.data_extract, Array.toList_append, Array.toList_extract, List.map_cons, List.map_nil, List.extract_eq_take_drop, List.drop_zero, Nat.sub_zero]
    rw [List.take_succ_eq_append_getElem (by omega), bt_of s d (by omega)]
/-! the reference -/
/-! ### What stands where -/

theorem extract_toList (s : ByteArray) (a b : Nat) : (s.extract a b).data.toList = (s.data.toList.drop a).take (b - a) := by
  rw [ByteArray.data_extract, Array.toList_extract, List.extract_eq_take_drop]
end Go.Proofs.YthnhkaaodghpgaaDoor.AE
end
section
set_option linter.unusedVariables false
set_option linter.unusedSimpArgs false
set_option maxRecDepth 4000
namespace Go.Proofs.YthnhkaaodghpgaaDoor.AE
open Go

theorem w64_mod (x : Int) : w64 x = (x + 9223372036854775808) % 18446744073709551616 - 9223372036854775808 := by
  show IntKind.i64.wrap x = _
  rw [Go.IntKind.wrap_i64]
end Go.Proofs.YthnhkaaodghpgaaDoor.AE
end
section
set_option linter.unusedVariables false
set_option linter.unusedSimpArgs false
set_option maxRecDepth 4000
namespace Go.Proofs.YthnhkaaodghpgaaDoor.AE
open Go

theorem bne_ne {e : Int} (he : e ≠ 0) : (e != 0) = true := by simp [he]
end Go.Proofs.YthnhkaaodghpgaaDoor.AE
end
section
set_option linter.unusedVariables false
set_option linter.unusedSimpArgs false
set_option maxRecDepth 4000
namespace Go.Proofs.YthnhkaaodghpgaaDoor.AE
open Go

/-! rows of texts, of properties -/
end Go.Proofs.YthnhkaaodghpgaaDoor.AE
end
section
set_option linter.unusedVariables false
set_option linter.unusedSimpArgs false
namespace Go.Proofs.YthnhkaaodghpgaaDoor.AE
open Go

abbrev hexD : ByteArray := ⟨#[48, 49, 50, 51, 52, 53, 54, 55, 56, 57, 97, 98, 99, 100, 101, 102]⟩
def hexL (s : ByteArray) : Nat → Nat → List Int
  | 0, _ => []
  | d + 1, i => byteAt hexD (byteAt s (i : Int) / 16) :: byteAt hexD (byteAt s (i : Int) % 16) :: hexL s d (i + 1)
def hexB (s : ByteArray) : ByteArray := bytesOf (hexL s s.size 0)
theorem hexL_len (s : ByteArray) : ∀ d i, (hexL s d i).length = 2 * d
  | 0, i => rfl
  | d + 1, i => by simp only [hexL, List.length_cons, hexL_len s d (i + 1)]; omega
theorem hexB_size (s : ByteArray) : (hexB s).size = 2 * s.size := by unfold hexB; rw [strOfNums_size, hexL_len]

theorem byte_fin {p : Int → Prop} (h : ∀ c : Fin 256, p (c.val : Int)) {c : Int} (h0 : 0 ≤ c) (h1 : c < 256) : p c := by
  obtain ⟨n, rfl⟩ := Int.eq_ofNat_of_zero_le h0
  exact h ⟨n, by omega⟩
theorem and15 {c : Int} (h0 : 0 ≤ c) (h1 : c < 256) : IntKind.wrap .u8 ((BitVec.ofInt 8 c &&& BitVec.ofInt 8 15).toNat : Int) = c % 16 :=
  byte_fin (p := fun c => IntKind.wrap .u8 ((BitVec.ofInt 8 c &&& BitVec.ofInt 8 15).toNat : Int) = c % 16) (by decide +kernel) h0 h1
theorem fdiv16 {c : Int} (h0 : 0 ≤ c) (h1 : c < 256) : Int.fdiv c (2 ^ 4) = c / 16 :=
  byte_fin (p := fun c => Int.fdiv c (2 ^ 4) = c / 16) (by decide +kernel) h0 h1
theorem tdiv16 {c : Int} (h0 : 0 ≤ c) (h1 : c < 256) : w64 (Int.tdiv (w64 c) 16) = c / 16 :=
  byte_fin (p := fun c => w64 (Int.tdiv (w64 c) 16) = c / 16) (by decide +kernel) h0 h1
theorem tmod16 {c : Int} (h0 : 0 ≤ c) (h1 : c < 256) : Int.tmod (w64 c) 16 = c % 16 :=
  byte_fin (p := fun c => Int.tmod (w64 c) 16 = c % 16) (by decide +kernel) h0 h1
theorem hexD_size : ((hexD.size : Nat) : Int) = 16 := rfl
theorem hexD_one {k : Nat} (h : k < 16) : hexD.extract k (k + 1) = bytesOf [byteAt hexD (k : Int)] := by
  have : ∀ k : Fin 16, (hexD.extract k.val (k.val + 1)).data = (bytesOf [byteAt hexD (k.val : Int)]).data := by decide +kernel
  exact ByteArray.ext (this ⟨k, h⟩)

theorem sha_Hex_l (s : ByteArray) (hs : s.size ≤ 1000000) : ∀ (d i : Nat) (x : List Int), i + d = s.size → x.length ≤ 2 * i → V.sha_Hex.l11010 s (i : Int) x = some (bytesOf (x ++ hexL s d i))
  | 0, i, x, h, hx => by
    apply V.sha_Hex.l11010.of; unfold F.sha_Hex.l11010.B
    rw [if_out (by omega)]
    simp [hexL]
  | d + 1, i, x, h, hx => by
    obtain ⟨b0, b1⟩ := bt_range s (i : Int)
    apply V.sha_Hex.l11010.of; unfold F.sha_Hex.l11010.B
    rw [if_in (by omega), guard_in (by omega), fdiv16 b0 b1, and15 b0 b1, hexD_size]
    rw [guard_of (by simp only [Bool.and_eq_true, decide_eq_true_eq]; omega), guard_in (by omega), guard_of (by simp only [Bool.and_eq_true, decide_eq_true_eq]; omega)]
    rw [guard_dec (by simp only [List.length_cons, List.length_nil, nmax]; omega), w64_up (n := s.size) (by omega) (by omega)]
    rw [sha_Hex_l s hs d (i + 1) _ (by omega) (by simp only [List.length_append, List.length_cons, List.length_nil]; omega)]
    simp only [hexL, List.append_assoc, List.cons_append, List.nil_append]
theorem sha_Hex_ok (s : ByteArray) (hs : s.size ≤ 1000000) : V.sha_Hex s = some (hexB s) := by
  apply V.sha_Hex.of; unfold F.sha_Hex.B
  rw [w64_id (by omega) (by omega), guard_of (by simp only [Bool.and_eq_true, decide_eq_true_eq]; omega)]
  have := sha_Hex_l s hs s.size 0 [] (by omega) (by simp)
  exact this

theorem bytes_two (a b : Int) : bytesOf [a] ++ bytesOf [b] = bytesOf [a, b] := by rw [← strOfNums_append]; rfl
theorem refHex_l (s : ByteArray) (hs : s.size ≤ 1000000) : ∀ (d i : Nat) (x : ByteArray), i + d = s.size → x.size ≤ 2 * i → V.pleachref03_Hex.l111010 s x (i : Int) = some (x ++ bytesOf (hexL s d i))
  | 0, i, x, h, hx => by
    apply V.pleachref03_Hex.l111010.of; unfold F.pleachref03_Hex.l111010.B
    rw [if_out (by omega)]
    simp only [hexL]
    exact congrArg some (app_nil x).symm
  | d + 1, i, x, h, hx => by
    obtain ⟨b0, b1⟩ := bt_range s (i : Int)
    obtain ⟨k, hk⟩ := Int.eq_ofNat_of_zero_le (show 0 ≤ byteAt s (i : Int) / 16 by omega)
    obtain ⟨m, hm⟩ := Int.eq_ofNat_of_zero_le (show 0 ≤ byteAt s (i : Int) % 16 by omega)
    apply V.pleachref03_Hex.l111010.of; unfold F.pleachref03_Hex.l111010.B
    rw [if_in (by omega), guard_in (by omega), guard_in (by omega), tdiv16 b0 b1, tmod16 b0 b1, hexD_size, hk, hm]
    have k16 : k < 16 := by omega
    have m16 : m < 16 := by omega
    rw [w64_up (n := 16) k16 (by omega), w64_up (n := 16) m16 (by omega)]
    simp only [Int.toNat_natCast]
    rw [guard_of (by simp only [Bool.and_eq_true, decide_eq_true_eq]; omega)]
    rw [guard_dec (by rw [hexD_one k16, strOfNums_size]; simp only [List.length_cons, List.length_nil, i64max]; omega)]
    rw [guard_of (by simp only [Bool.and_eq_true, decide_eq_true_eq]; omega)]
    rw [guard_dec (by rw [hexD_one k16, hexD_one m16, ByteArray.size_append, strOfNums_size, strOfNums_size]; simp only [List.length_cons, List.length_nil, i64max]; omega)]
    rw [hexD_one k16, hexD_one m16]
    rw [w64_up (n := s.size) (by omega) (by omega)]
    rw [refHex_l s hs d (i + 1) _ (by omega) (by rw [ByteArray.size_append, ByteArray.size_append, strOfNums_size, strOfNums_size]; simp only [List.length_cons, List.length_nil]; omega)]
    simp only [hexL, hk, hm]
    rw [show (byteAt hexD (k : Int) :: byteAt hexD (m : Int) :: hexL s d (i + 1)) = [byteAt hexD (k : Int), byteAt hexD (m : Int)] ++ hexL s d (i + 1) from rfl, strOfNums_append, ← bytes_two]
    simp only [ByteArray.append_assoc]
theorem refHex_ok (s : ByteArray) (hs : s.size ≤ 1000000) : V.pleachref03_Hex s = some (hexB s) := by
  apply V.pleachref03_Hex.of; unfold F.pleachref03_Hex.B
  have := refHex_l s hs s.size 0 ⟨#[]⟩ (by omega) (by simp [ByteArray.size])
  rw [nil_app] at this
  exact this

/-! ### Decimal digits -/
def dB (n : Nat) : ByteArray := ⟨(Lib.decDigits n).toArray⟩
def tensB (n : Nat) : ByteArray := if n = 0 then ⟨#[]⟩ else dB n
def oneB (n : Nat) : ByteArray := ⟨#[UInt8.ofNat (48 + n)]⟩
theorem tail_ok {n : Nat} (h : n < 10) : V.pleachref06_tail (n : Int) = some (oneB n) := by
  apply V.pleachref06_tail.of; unfold F.pleachref06_tail.B
  have : ∀ k : Fin 10, (bytesOf [IntKind.wrap .u8 (w64 (48 + (k.val : Int)))]).data = (oneB k.val).data := by decide +kernel
  exact congrArg some (ByteArray.ext (this ⟨n, h⟩))
theorem data_app (a b : List UInt8) : (⟨a.toArray⟩ : ByteArray) ++ ⟨b.toArray⟩ = ⟨(a ++ b).toArray⟩ := by apply ByteArray.ext; simp
theorem tens_one (n : Nat) : tensB (n / 10) ++ oneB (n % 10) = dB n := by
  unfold tensB dB oneB
  by_cases h : n < 10
  · rw [if_pos (by omega), Lib.decDigits_one h, Nat.mod_eq_of_lt h]
    exact nil_app _
  · rw [if_neg (by omega)]
    conv => rhs; rw [Lib.decDigits, dif_neg h]
    exact data_app _ _
theorem oneB_size (n : Nat) : (oneB n).size = 1 := rfl
theorem div10 (n : Nat) : Int.tdiv (n : Int) 10 = ((n / 10 : Nat) : Int) := by rw [Int.tdiv_eq_ediv_of_nonneg (by omega)]; omega
theorem mod10 (n : Nat) : Int.tmod (n : Int) 10 = ((n % 10 : Nat) : Int) := by rw [Int.tmod_eq_emod_of_nonneg (by omega)]; omega
theorem tens_l (a : Int) : ∀ (k n : Nat) (out : ByteArray), n < 10 ^ k → n < 18446744073709551616 → out.size + k ≤ 100 → V.pleachref06_tens.l1100 a (n : Int) out = some (tensB n ++ out)
  | k, 0, out, h, h64, hk => by
    apply V.pleachref06_tens.l1100.of; unfold F.pleachref06_tens.l1100.B
    rw [if_no (by omega)]
    exact congrArg some (nil_app out).symm
  | 0, n + 1, out, h, h64, hk => by simp at h
  | k + 1, n + 1, out, h, h64, hk => by
    have h' : (n + 1) / 10 < 10 ^ k := by rw [Nat.pow_succ] at h; omega
    apply V.pleachref06_tens.l1100.of; unfold F.pleachref06_tens.l1100.B
    rw [if_yes (by omega), mod10, w64_id (by omega) (by omega), tail_ok (by omega), Option.bind_some, guard_dec (by rw [oneB_size]; simp only [i64max]; omega), div10, u64_id (by omega) (by omega)]
    rw [tens_l a k ((n + 1) / 10) _ h' (by omega) (by rw [ByteArray.size_append, oneB_size]; omega), ← ByteArray.append_assoc, tens_one]
    rfl
theorem dB_size : ∀ (k n : Nat), n < 10 ^ (k + 1) → (dB n).size ≤ k + 1
  | 0, n, h => by
    unfold dB; rw [Lib.decDigits_one (by simpa using h)]; simp [ByteArray.size]
  | k + 1, n, h => by
    rw [← tens_one n, ByteArray.size_append, oneB_size]
    unfold tensB
    split
    · simp [ByteArray.size]
    · have := dB_size k (n / 10) (by rw [Nat.pow_succ] at h; omega)
      omega
theorem tensB_size {n : Nat} (h : n < 18446744073709551616) : (tensB n).size ≤ 20 := by
  unfold tensB
  split
  · simp [ByteArray.size]
  · have := dB_size 19 n (by omega)
    omega
theorem tens_ok {n : Nat} (h : n < 18446744073709551616) : V.pleachref06_tens (n : Int) = some (tensB n) := by
  apply V.pleachref06_tens.of; unfold F.pleachref06_tens.B
  rw [tens_l _ 20 n _ (by omega) h (by simp [ByteArray.size]), app_nil]

theorem itoaS_neg {n : Int} (h : n < 0) : itoaS n = (⟨#[45]⟩ : ByteArray) ++ dB n.natAbs := by
  unfold itoaS Lib.itoa dB
  rw [if_pos h]
  exact (data_app [45] _).symm
theorem itoaS_pos {n : Nat} : itoaS (n : Int) = dB n := by
  unfold itoaS Lib.itoa dB
  rw [if_neg (by omega)]; rfl
theorem Digits_ok {a : Int} (h0 : -9223372036854775808 ≤ a) (h1 : a ≤ 9223372036854775807) : V.pleachref06_Digits a = some (itoaS a) := by
  apply V.pleachref06_Digits.of; unfold F.pleachref06_Digits.B
  by_cases hn : a < 0
  · obtain ⟨m, hm⟩ := Int.eq_ofNat_of_zero_le (show 0 ≤ -(a + 1) by omega)
    have e1 : IntKind.wrap .u64 (w64 (0 - (w64 (a + 1)))) = (m : Int) := by
      rw [w64_id (x := a + 1) (by omega) (by omega), w64_id (by omega) (by omega), u64_id (by omega) (by omega)]; omega
    rw [if_yes hn, e1, mod10, div10, w64_id (x := ((m % 10 : Nat) : Int)) (by omega) (by omega), w64_id (by omega) (by omega), u64_id (x := ((m / 10 : Nat) : Int)) (by omega) (by omega), u64_id (by omega) (by omega)]
    rw [itoaS_neg hn, show a.natAbs = m + 1 by omega, ← tens_one (m + 1)]
    by_cases h9 : m % 10 = 9
    · have hc : ((((m % 10 : Nat) : Int) + 1) == 10) = true := by rw [h9]; rfl
      rw [hc, cond_true, show ((m / 10 : Nat) : Int) + 1 = (((m + 1) / 10 : Nat) : Int) by omega, tens_ok (by omega), Option.bind_some]
      have hz := tensB_size (n := (m + 1) / 10) (by omega)
      rw [guard_dec (by simp only [i64max]; show 1 + _ ≤ _; omega), show (0 : Int) = ((0 : Nat) : Int) from rfl, tail_ok (by omega), Option.bind_some, guard_dec (by rw [ByteArray.size_append, oneB_size]; simp only [i64max]; show 1 + _ + _ ≤ _; omega)]
      rw [show (m + 1) % 10 = 0 by omega, ByteArray.append_assoc]
    · have hc : ((((m % 10 : Nat) : Int) + 1) == 10) = false := by
        rw [beq_eq_false_iff_ne]; omega
      rw [hc, cond_false, show ((m / 10 : Nat) : Int) = (((m + 1) / 10 : Nat) : Int) by omega, tens_ok (by omega), Option.bind_some]
      have hz := tensB_size (n := (m + 1) / 10) (by omega)
      rw [guard_dec (by simp only [i64max]; show 1 + _ ≤ _; omega), show ((m % 10 : Nat) : Int) + 1 = (((m + 1) % 10 : Nat) : Int) by omega, tail_ok (by omega), Option.bind_some, guard_dec (by rw [ByteArray.size_append, oneB_size]; simp only [i64max]; show 1 + _ + _ ≤ _; omega)]
      rw [ByteArray.append_assoc]
  · obtain ⟨n, rfl⟩ := Int.eq_ofNat_of_zero_le (show 0 ≤ a by omega)
    rw [if_no hn, u64_id (x := (n : Int)) (by omega) (by omega), div10, u64_id (by omega) (by omega), mod10, tens_ok (by omega), Option.bind_some, tail_ok (by omega), Option.bind_some]
    have hz := tensB_size (n := n / 10) (by omega)
    rw [guard_dec (by rw [oneB_size]; simp only [i64max]; omega), tens_one, itoaS_pos]
theorem itoaS_size {a : Int} (h0 : -9223372036854775808 ≤ a) (h1 : a ≤ 9223372036854775807) : (itoaS a).size ≤ 21 := by
  by_cases hn : a < 0
  · rw [itoaS_neg hn, ByteArray.size_append]
    have := dB_size 19 a.natAbs (by omega)
    show 1 + _ ≤ _; omega
  · obtain ⟨n, rfl⟩ := Int.eq_ofNat_of_zero_le (show 0 ≤ a by omega)
    rw [itoaS_pos]
    have := dB_size 19 n (by omega)
    omega

/-! ### Plain texts -/
def badI (c : Int) : Bool := !(((((decide (c ≥ 97) && decide (c ≤ 122)) || (decide (c ≥ 65) && decide (c ≤ 90))) || (decide (c ≥ 48) && decide (c ≤ 57))) || c == 45) || c == 46 || c == 95)
def okF (s : ByteArray) : Nat → Nat → Bool
  | 0, _ => true
  | d + 1, i => bif badI (byteAt s (i : Int)) then false else okF s d (i + 1)
def plainB (s : ByteArray) : Bool := okF s s.size 0
theorem refPlain_l (s : ByteArray) (hs : s.size ≤ 1000000) : ∀ (d i : Nat), i + d = s.size → V.pleachref06_plain.l1010 s (i : Int) = some (okF s d i)
  | 0, i, h => by
    apply V.pleachref06_plain.l1010.of; unfold F.pleachref06_plain.l1010.B
    rw [if_out (by omega)]; rfl
  | d + 1, i, h => by
    apply V.pleachref06_plain.l1010.of; unfold F.pleachref06_plain.l1010.B
    rw [if_in (by omega), guard_in (by omega), w64_up (n := s.size) (by omega) (by omega), refPlain_l s hs d (i + 1) (by omega)]
    simp only [okF, badI, bne]
    generalize byteAt s (i : Int) = c
    generalize okF s d (i + 1) = r
    generalize decide (c ≥ 97) = p1
    generalize decide (c ≤ 122) = p2
    generalize decide (c ≥ 65) = p3
    generalize decide (c ≤ 90) = p4
    generalize decide (c ≥ 48) = p5
    generalize decide (c ≤ 57) = p6
    generalize (c == 45) = p7
    generalize (c == 46) = p8
    generalize (c == 95) = p9
    cases p1 <;> cases p2 <;> cases p3 <;> cases p4 <;> cases p5 <;> cases p6 <;> cases p7 <;> cases p8 <;> cases p9 <;> rfl
theorem refPlain_ok (s : ByteArray) (hs : s.size ≤ 1000000) : V.pleachref06_plain s = some (plainB s) := by
  apply V.pleachref06_plain.of; unfold F.pleachref06_plain.B
  exact refPlain_l s hs s.size 0 (by omega)

theorem decode_low {s : ByteArray} {i : Nat} (h : (s.get! i).toNat < 128) : Utf8.decode s i = ((s.get! i).toNat, 1) := by
  unfold Utf8.decode
  simp only [Nat.add_zero]
  rw [if_pos h]
theorem decode_high {s : ByteArray} {i : Nat} (h : 128 ≤ (s.get! i).toNat) : 128 ≤ (Utf8.decode s i).1 := by
  unfold Utf8.decode
  simp only [Nat.add_zero, Utf8.runeError]
  rw [if_neg (by omega)]
  repeat' split
  all_goals first | omega | (rename_i h1; simp only [Bool.and_eq_true, decide_eq_true_eq, ge_iff_le] at h1; omega) | (simp only [ge_iff_le] at *; omega)
theorem bt_get {s : ByteArray} {i : Nat} (h : i < s.size) : byteAt s (i : Int) = ((s.get! i).toNat : Int) := by
  rw [bt_data s i h]
  congr 1
  cases s with
  | mk a => 
    have h' : i < a.size := h
    simp [ByteArray.get!, getElem!_pos, h']
theorem badR_of (n : Nat) : badR n = badI (n : Int) := by
  unfold badR badI
  rw [Bool.eq_iff_iff]
  simp
  omega
theorem badR_high {n : Nat} (h : 128 ≤ n) : badR n = true := by
  unfold badR; simp; omega
theorem idx_plain (s : ByteArray) : ∀ (f d i : Nat), i + d = s.size → d ≤ f → decide (0 ≤ Lib.idxFuncFrom badR true s f i) = !(okF s d i)
  | f, 0, i, h, hf => by
    rw [Lib.idxFuncFrom_end _ _ _ _ _ (by omega)]; rfl
  | 0, d + 1, i, h, hf => by omega
  | f + 1, d + 1, i, h, hf => by
    have hi : i < s.size := by omega
    unfold Lib.idxFuncFrom
    rw [if_pos hi]
    simp only [okF]
    rw [bt_get hi, ← badR_of]
    by_cases hl : (s.get! i).toNat < 128
    · rw [decode_low hl]
      cases hb : badR (s.get! i).toNat
      · rw [if_neg (by simp [hb])]
        exact idx_plain s f d (i + 1) (by omega) (by omega)
      · simp
    · have h1 : badR (s.get! i).toNat = true := badR_high (by omega)
      have h2 : badR (Utf8.decode s i).1 = true := badR_high (decode_high (by omega))
      rw [h1, h2]; simp
theorem hasR_plain (s : ByteArray) : hasR badR s = !(plainB s) := by
  unfold hasR Lib.idxFunc plainB
  exact idx_plain s s.size s.size 0 (by omega) (Nat.le_refl _)
theorem plain_ok (s : ByteArray) : V.value_plain s = some (plainB s) := by
  apply V.value_plain.of; unfold F.value_plain.B
  rw [V.strings_ContainsFunc_by_value_plain_1.of s (r := hasR badR s) rfl, Option.bind_some, hasR_plain, Bool.not_not]

/-! ### A value's word -/
def showB (v : TValue) : ByteArray :=
  if valueB v then (if v.1 = 1 then (if v.2.1 = 1 then ⟨#[116, 114, 117, 101]⟩ else ⟨#[102, 97, 108, 115, 101]⟩) else if v.1 = 2 then itoaS v.2.1 else if plainB v.2.2 then (⟨#[39]⟩ : ByteArray) ++ v.2.2 else (⟨#[35]⟩ : ByteArray) ++ hexB v.2.2) else ⟨#[]⟩
theorem value_kind {v : TValue} (h : valueB v = true) : (v.1 = 1 ∨ v.1 = 2 ∨ v.1 = 3) ∧ v.2.2.size ≤ 64 := by
  unfold valueB at h
  simp only [Bool.or_eq_true, Bool.and_eq_true, beq_iff_eq, decide_eq_true_eq] at h
  omega
theorem Itoa_ok {a : Int} (h0 : -9223372036854775808 ≤ a) (h1 : a ≤ 9223372036854775807) : V.strconv_Itoa a = some (itoaS a) := by
  apply V.strconv_Itoa.of
  show itoaB a = _
  unfold itoaB
  exact guard_of (by simp [h0, h1])
theorem value_Show_ok (v : TValue) (hb : -9223372036854775808 ≤ v.2.1 ∧ v.2.1 ≤ 9223372036854775807) : V.value_Show v = some (showB v) := by
  obtain ⟨k, n, t⟩ := v
  apply V.value_Show.of; unfold F.value_Show.B
  rw [value_Check_ok, Option.bind_some]
  unfold showB
  cases hv : valueB (k, n, t) with
  | false => simp
  | true =>
    obtain ⟨hk, ht⟩ := value_kind hv
    simp only at hk ht hb
    simp only [if_true]
    rw [show ((0 : Int) != 0) = false from rfl, cond_false, Itoa_ok hb.1 hb.2, plain_ok t, sha_Hex_ok t (by omega)]
    simp only [Option.bind_some]
    rw [guard_dec (p := (⟨#[39]⟩ : ByteArray).size + t.size ≤ i64max) (by show 1 + _ ≤ _; simp only [i64max]; omega), guard_dec (p := (⟨#[35]⟩ : ByteArray).size + (hexB t).size ≤ i64max) (by rw [hexB_size]; show 1 + _ ≤ _; simp only [i64max]; omega)]
    rcases hk with rfl | rfl | rfl
    · by_cases h1 : n = 1
      · subst h1; simp
      · rw [show (n == 1) = false from beq_eq_false_iff_ne.2 h1, if_neg (show ¬ ((1, n, t) : TValue).2.1 = 1 from h1)]; rfl
    · simp
    · cases plainB t <;> simp
theorem refShow_ok (v : TValue) (hb : -9223372036854775808 ≤ v.2.1 ∧ v.2.1 ≤ 9223372036854775807) : V.pleachref06_Show v = some (showB v) := by
  obtain ⟨k, n, t⟩ := v
  apply V.pleachref06_Show.of; unfold F.pleachref06_Show.B
  rw [refVIs_ok, Option.bind_some]
  unfold showB
  cases hv : valueB (k, n, t) with
  | false => simp
  | true =>
    obtain ⟨hk, ht⟩ := value_kind hv
    simp only at hk ht hb
    simp only [if_true]
    rw [Digits_ok hb.1 hb.2, refPlain_ok t (by omega), refHex_ok t (by omega)]
    simp only [Option.bind_some]
    rw [guard_dec (p := (⟨#[39]⟩ : ByteArray).size + t.size ≤ i64max) (by show 1 + _ ≤ _; simp only [i64max]; omega), guard_dec (p := (⟨#[35]⟩ : ByteArray).size + (hexB t).size ≤ i64max) (by rw [hexB_size]; show 1 + _ ≤ _; simp only [i64max]; omega)]
    rcases hk with rfl | rfl | rfl
    · by_cases h1 : n = 1
      · subst h1; simp
      · rw [show (n == 1) = false from beq_eq_false_iff_ne.2 h1, if_neg (show ¬ ((1, n, t) : TValue).2.1 = 1 from h1)]; rfl
    · simp
    · cases plainB t <;> simp
theorem awake06_ok : V.pleachlaw06_awake = some true := by
  apply V.pleachlaw06_awake.of; unfold F.pleachlaw06_awake.B
  rw [value_Put_ok (2, -1, ⟨#[]⟩) (by decide), Option.bind_some, value_Show_ok (3, 0, ⟨#[97, 32, 98]⟩) (by decide), Option.bind_some]
  decide +kernel
end Go.Proofs.YthnhkaaodghpgaaDoor.AE
end
section
set_option linter.unusedVariables false
set_option linter.unusedSimpArgs false
namespace Go.Proofs.YthnhkaaodghpgaaDoor.AE
open Go

/-! ### A value of bytes -/
end Go.Proofs.YthnhkaaodghpgaaDoor.AE
end
section
set_option linter.unusedVariables false
set_option linter.unusedSimpArgs false
namespace Go.Proofs.YthnhkaaodghpgaaDoor.AE
open Go

def hv (c : Int) : Int := if 48 ≤ c ∧ c ≤ 57 then c - 48 else if 97 ≤ c ∧ c ≤ 102 then c - 87 else 16
theorem hv_range {c : Int} (h0 : 0 ≤ c) (h1 : c < 256) : 0 ≤ hv c ∧ hv c ≤ 16 := by unfold hv; split <;> (try split) <;> omega
theorem digit_ok {c : Int} (h0 : 0 ≤ c) (h1 : c < 256) : V.sha_digit c = some (hv c) := by
  apply V.sha_digit.of
  exact byte_fin (p := fun c => F.sha_digit.B c = some (hv c)) (by decide +kernel) h0 h1
def plF (c : Int) : Nat → Nat → Int
  | 0, _ => 16
  | d + 1, i => bif byteAt hexD (i : Int) == c then (i : Int) else plF c d (i + 1)
theorem place_l (c : Int) : ∀ d i : Nat, i + d = 16 → V.pleachref03_place.l11010 c (i : Int) = some (plF c d i)
  | 0, i, h => by
    apply V.pleachref03_place.l11010.of; unfold F.pleachref03_place.l11010.B
    rw [if_no (by omega)]; rfl
  | d + 1, i, h => by
    apply V.pleachref03_place.l11010.of; unfold F.pleachref03_place.l11010.B
    rw [if_yes (by omega), hexD_size, guard_of (by simp only [Bool.and_eq_true, decide_eq_true_eq]; omega), w64_up (n := 16) (by omega) (by omega), place_l c d (i + 1) (by omega)]
    simp only [plF]
    cases (byteAt hexD (i : Int) == c) <;> rfl
theorem place_ok {c : Int} (h0 : 0 ≤ c) (h1 : c < 256) : V.pleachref03_place c = some (hv c) := by
  apply V.pleachref03_place.of; unfold F.pleachref03_place.B
  have := place_l c 16 0 (by omega)
  rw [byte_fin (p := fun c => plF c 16 0 = hv c) (by decide +kernel) h0 h1] at this
  exact this
theorem pair_fin {p : Int → Int → Prop} (h : ∀ a b : Fin 16, p (a.val : Int) (b.val : Int)) {a b : Int} (h0 : 0 ≤ a) (h1 : a ≤ 15) (g0 : 0 ≤ b) (g1 : b ≤ 15) : p a b := by
  obtain ⟨n, rfl⟩ := Int.eq_ofNat_of_zero_le h0
  obtain ⟨m, rfl⟩ := Int.eq_ofNat_of_zero_le g0
  exact h ⟨n, by omega⟩ ⟨m, by omega⟩
theorem pairP {a b : Int} (h0 : 0 ≤ a) (h1 : a ≤ 15) (g0 : 0 ≤ b) (g1 : b ≤ 15) : IntKind.wrap .u8 ((BitVec.ofInt 8 (IntKind.wrap .u8 (a * 2 ^ 4)) ||| BitVec.ofInt 8 b).toNat : Int) = 16 * a + b :=
  pair_fin (p := fun a b => IntKind.wrap .u8 ((BitVec.ofInt 8 (IntKind.wrap .u8 (a * 2 ^ 4)) ||| BitVec.ofInt 8 b).toNat : Int) = 16 * a + b) (by decide +kernel) h0 h1 g0 g1
theorem pairR {a b : Int} (h0 : 0 ≤ a) (h1 : a ≤ 15) (g0 : 0 ≤ b) (g1 : b ≤ 15) : IntKind.wrap .u8 (w64 ((w64 (16 * a)) + b)) = 16 * a + b :=
  pair_fin (p := fun a b => IntKind.wrap .u8 (w64 ((w64 (16 * a)) + b)) = 16 * a + b) (by decide +kernel) h0 h1 g0 g1
def uhx (s : ByteArray) : Nat → Nat → Option (List Int)
  | 0, _ => some []
  | d + 1, i => if hv (byteAt s (i : Int)) ≤ 15 ∧ hv (byteAt s ((i + 1 : Nat) : Int)) ≤ 15 then (uhx s d (i + 2)).map fun l => (16 * hv (byteAt s (i : Int)) + hv (byteAt s ((i + 1 : Nat) : Int))) :: l else none
theorem w64_two {i n : Nat} (h : i + 1 < n) (hn : n ≤ 140737488351232) : w64 ((i : Int) + 2) = ((i + 2 : Nat) : Int) := by rw [w64_id (by omega) (by omega)]; omega
theorem sha_Unhex_l (s : ByteArray) (hs : s.size ≤ 1000000) : ∀ (d i : Nat) (x : List Int), i + 2 * d = s.size → x.length ≤ i → V.sha_Unhex.l111010 s (i : Int) x = some (match uhx s d i with | some l => (bytesOf (x ++ l), true) | none => ((⟨#[]⟩ : ByteArray), false))
  | 0, i, x, h, hx => by
    apply V.sha_Unhex.l111010.of; unfold F.sha_Unhex.l111010.B
    rw [if_out (by omega)]
    simp [uhx]
  | d + 1, i, x, h, hx => by
    obtain ⟨b0, b1⟩ := bt_range s (i : Int)
    obtain ⟨c0, c1⟩ := bt_range s ((i + 1 : Nat) : Int)
    have r0 := hv_range b0 b1
    have r1 := hv_range c0 c1
    apply V.sha_Unhex.l111010.of; unfold F.sha_Unhex.l111010.B
    rw [if_in (by omega), guard_in (by omega), w64_up (n := s.size) (by omega) (by omega), guard_in (by omega), digit_ok b0 b1, Option.bind_some, digit_ok c0 c1, Option.bind_some]
    simp only [uhx]
    by_cases h1 : hv (byteAt s (i : Int)) ≤ 15
    · rw [if_no (by omega)]
      by_cases h2 : hv (byteAt s ((i + 1 : Nat) : Int)) ≤ 15
      · rw [if_no (by omega), guard_dec (by simp only [List.length_cons, List.length_nil, nmax]; omega), pairP r0.1 h1 r1.1 h2, w64_two (n := s.size) (by omega) (by omega)]
        rw [sha_Unhex_l s hs d (i + 2) _ (by omega) (by simp only [List.length_append, List.length_cons, List.length_nil]; omega), if_pos ⟨h1, h2⟩]
        cases uhx s d (i + 2) with
        | none => rfl
        | some l => simp
      · rw [if_yes (by omega), if_neg (fun h => h2 h.2)]
    · rw [if_yes (by omega), if_neg (fun h => h1 h.1)]
def unhexV (s : ByteArray) : ByteArray × Bool := if s.size % 2 = 0 then (match uhx s (s.size / 2) 0 with | some l => (bytesOf l, true) | none => ((⟨#[]⟩ : ByteArray), false)) else ((⟨#[]⟩ : ByteArray), false)
theorem tmod2 (n : Nat) : Int.tmod (n : Int) 2 = ((n % 2 : Nat) : Int) := by rw [Int.tmod_eq_emod_of_nonneg (by omega)]; omega
theorem sha_Unhex_ok (s : ByteArray) (hs : s.size ≤ 1000000) : V.sha_Unhex s = some (unhexV s) := by
  apply V.sha_Unhex.of; unfold F.sha_Unhex.B unhexV
  rw [tmod2]
  by_cases h : s.size % 2 = 0
  · rw [h, if_pos rfl]
    have := sha_Unhex_l s hs (s.size / 2) 0 [] (by omega) (by simp)
    exact this
  · rw [if_neg h, show (((s.size % 2 : Nat) : Int) != 0) = true from bne_ne (by omega)]; rfl
theorem refUnhex_l (s : ByteArray) (hs : s.size ≤ 1000000) : ∀ (d i : Nat) (x : ByteArray), i + 2 * d + s.size % 2 = s.size → x.size ≤ i → V.pleachref03_Unhex.l11010 s x (i : Int) = some (match uhx s d i with | some l => (if s.size % 2 = 0 then (x ++ bytesOf l, true) else ((⟨#[]⟩ : ByteArray), false)) | none => ((⟨#[]⟩ : ByteArray), false))
  | 0, i, x, h, hx => by
    apply V.pleachref03_Unhex.l11010.of; unfold F.pleachref03_Unhex.l11010.B
    rw [w64_id (by omega) (by omega), if_no (by omega), tmod2]
    simp only [uhx]
    by_cases g : s.size % 2 = 0
    · rw [g, if_pos rfl]
      exact congrArg some (congrArg (fun y => (y, true)) (app_nil x).symm)
    · rw [if_neg g, show (((s.size % 2 : Nat) : Int) != 0) = true from bne_ne (by omega)]; rfl
  | d + 1, i, x, h, hx => by
    obtain ⟨b0, b1⟩ := bt_range s (i : Int)
    obtain ⟨c0, c1⟩ := bt_range s ((i + 1 : Nat) : Int)
    have r0 := hv_range b0 b1
    have r1 := hv_range c0 c1
    apply V.pleachref03_Unhex.l11010.of; unfold F.pleachref03_Unhex.l11010.B
    rw [w64_up (n := s.size) (by omega) (by omega), if_in (by omega), guard_in (by omega), guard_in (by omega), place_ok b0 b1, Option.bind_some, place_ok c0 c1, Option.bind_some]
    simp only [uhx]
    by_cases h1 : hv (byteAt s (i : Int)) ≤ 15
    · rw [if_no (by omega)]
      by_cases h2 : hv (byteAt s ((i + 1 : Nat) : Int)) ≤ 15
      · rw [if_no (by omega), guard_dec (by rw [strOfNums_size]; simp only [List.length_cons, List.length_nil, i64max]; omega), pairR r0.1 h1 r1.1 h2, w64_two (n := s.size) (by omega) (by omega)]
        rw [refUnhex_l s hs d (i + 2) _ (by omega) (by rw [ByteArray.size_append, strOfNums_size]; simp only [List.length_cons, List.length_nil]; omega), if_pos ⟨h1, h2⟩]
        cases uhx s d (i + 2) with
        | none => rfl
        | some l =>
          simp only [Option.map_some]
          rw [show ∀ a : Int, a :: l = [a] ++ l from fun a => rfl, strOfNums_append, ByteArray.append_assoc]
      · rw [if_yes (by omega), if_neg (fun h => h2 h.2)]
    · rw [if_yes (by omega), if_neg (fun h => h1 h.1)]
theorem refUnhex_ok (s : ByteArray) (hs : s.size ≤ 1000000) : V.pleachref03_Unhex s = some (unhexV s) := by
  apply V.pleachref03_Unhex.of; unfold F.pleachref03_Unhex.B unhexV
  have := refUnhex_l s hs (s.size / 2) 0 ⟨#[]⟩ (by omega) (by simp [ByteArray.size])
  refine this.trans (congrArg some ?_)
  cases uhx s (s.size / 2) 0 with
  | none => simp
  | some l => simp only [nil_app]
theorem bt_bytesOf {L : List Int} (hL : isBytes L) {j : Nat} (hj : j < L.length) : byteAt (bytesOf L) (j : Int) = L.getD j 0 := by
  have hb := hL _ (List.getElem_mem hj)
  unfold byteAt bytesOf
  simp [List.getD, hj]
  omega
theorem hexD_byte (k : Int) : 0 ≤ byteAt hexD k ∧ byteAt hexD k < 256 := bt_range _ _
theorem hexL_bytes (t : ByteArray) : ∀ d i, isBytes (hexL t d i)
  | 0, i => by intro x hx; cases hx
  | d + 1, i => by
    intro x hx
    simp only [hexL, List.mem_cons] at hx
    rcases hx with rfl | rfl | hx
    · exact hexD_byte _
    · exact hexD_byte _
    · exact hexL_bytes t d (i + 1) x hx
theorem hexL_at (t : ByteArray) : ∀ d i k, k < d → (hexL t d i).getD (2 * k) 0 = byteAt hexD (byteAt t ((i + k : Nat) : Int) / 16) ∧ (hexL t d i).getD (2 * k + 1) 0 = byteAt hexD (byteAt t ((i + k : Nat) : Int) % 16)
  | d + 1, i, 0, h => ⟨rfl, rfl⟩
  | d + 1, i, k + 1, h => by
    have := hexL_at t d (i + 1) k (by omega)
    rw [show i + 1 + k = i + (k + 1) by omega] at this
    exact this
theorem hv_hexD {k : Int} (h0 : 0 ≤ k) (h1 : k ≤ 15) : hv (byteAt hexD k) = k :=
  pair_fin (p := fun a b => hv (byteAt hexD a) = a) (by decide +kernel) h0 h1 (b := 0) (by omega) (by omega)
theorem uhx_hex (s t : ByteArray) : ∀ (d i p : Nat), (∀ k, k < d → byteAt s ((i + 2 * k : Nat) : Int) = byteAt hexD (byteAt t ((p + k : Nat) : Int) / 16) ∧ byteAt s ((i + 2 * k + 1 : Nat) : Int) = byteAt hexD (byteAt t ((p + k : Nat) : Int) % 16)) → uhx s d i = some (bl t d p)
  | 0, i, p, h => rfl
  | d + 1, i, p, h => by
    obtain ⟨h1, h2⟩ := h 0 (by omega)
    obtain ⟨b0, b1⟩ := bt_range t (p : Int)
    simp only [Nat.mul_zero, Nat.add_zero] at h1 h2
    simp only [uhx, bl]
    rw [h1, h2, hv_hexD (by omega) (by omega), hv_hexD (by omega) (by omega), if_pos ⟨by omega, by omega⟩]
    rw [uhx_hex s t d (i + 2) (p + 1) (fun k hk => by
      have := h (k + 1) (by omega)
      rw [show i + 2 * (k + 1) = i + 2 + 2 * k by omega, show p + (k + 1) = p + 1 + k by omega] at this
      exact this)]
    simp only [Option.map_some]
    rw [show 16 * (byteAt t (p : Int) / 16) + byteAt t (p : Int) % 16 = byteAt t (p : Int) by omega]
theorem unhex_hex (t : ByteArray) : unhexV (hexB t) = (t, true) := by
  unfold unhexV
  rw [hexB_size, if_pos (by omega), show 2 * t.size / 2 = t.size by omega]
  rw [uhx_hex (hexB t) t t.size 0 0 (fun k hk => by
    have hl := hexL_len t t.size 0
    have := hexL_at t t.size 0 k hk
    unfold hexB
    rw [show 0 + 2 * k = 2 * k by omega, bt_bytesOf (hexL_bytes t _ _) (by omega), bt_bytesOf (hexL_bytes t _ _) (by omega)]
    exact this)]
  simp only
  rw [bytesOf_bl t t.size (Nat.le_refl _)]
  simp

/-! ### Numbers -/
def in64 (x : Int) : Prop := -9223372036854775808 ≤ x ∧ x ≤ 9223372036854775807
theorem w64_in (x : Int) : in64 (w64 x) := by unfold in64; rw [w64_mod]; omega
theorem bl_ints (s : ByteArray) : ∀ d i, i + d = s.size → bl s d i = (intsOf s).drop i
  | 0, i, h => by
    have : (intsOf s).length = s.size := by unfold intsOf; rw [List.length_map, data_len]
    rw [List.drop_eq_nil_of_le (by omega)]; rfl
  | d + 1, i, h => by
    have hl : (intsOf s).length = s.size := by unfold intsOf; rw [List.length_map, data_len]
    rw [List.drop_eq_getElem_cons (by omega)]
    simp only [bl]
    rw [bl_ints s d (i + 1) (by omega), bt_data s i (by omega)]
    congr 1
    unfold intsOf
    simp
theorem decD_digit : ∀ (n : Nat), ∀ c ∈ Lib.decDigits n, 48 ≤ c.toNat ∧ c.toNat ≤ 57 := by
  intro n
  induction n using Nat.strongRecOn with
  | _ n ih =>
    intro c hc
    by_cases h : n < 10
    · rw [Lib.decDigits_one h] at hc
      simp at hc; subst hc
      simp; omega
    · rw [Lib.decDigits, dif_neg h] at hc
      simp at hc
      rcases hc with hc | hc
      · exact ih (n / 10) (by omega) c hc
      · subst hc; simp; omega
theorem decD_ne (n : Nat) : Lib.decDigits n ≠ [] := by
  rw [Lib.decDigits]; split <;> simp
def foldV (neg : Bool) (x : Int) (l : List Int) : Int := l.foldl (fun x c => bif neg then w64 ((w64 (x * 10)) - (w64 ((w64 c) - 48))) else w64 ((w64 (x * 10)) + (w64 ((w64 c) - 48)))) x
theorem dval {c : Int} (h0 : 48 ≤ c) (h1 : c ≤ 57) : w64 ((w64 c) - 48) = c - 48 := by rw [w64_id (x := c) (by omega) (by omega), w64_id (by omega) (by omega)]
theorem fold_dec (neg : Bool) : ∀ n : Nat, (n : Int) ≤ (bif neg then 9223372036854775808 else 9223372036854775807) → foldV neg 0 ((Lib.decDigits n).map fun b => (b.toNat : Int)) = bif neg then -(n : Int) else (n : Int) := by
  intro n
  induction n using Nat.strongRecOn with
  | _ n ih =>
    intro hn
    by_cases h : n < 10
    · rw [Lib.decDigits_one h]
      have e : ((UInt8.ofNat (48 + n)).toNat : Int) = 48 + n := by simp; omega
      simp only [List.map_cons, List.map_nil, foldV, List.foldl_cons, List.foldl_nil, e]
      rw [dval (by omega) (by omega)]
      cases neg
      · simp only [cond_false]; rw [w64_id (x := 0 * 10) (by omega) (by omega), w64_id (by omega) (by omega)]; omega
      · simp only [cond_true]; rw [w64_id (x := 0 * 10) (by omega) (by omega), w64_id (by omega) (by omega)]; omega
    · have hlt : ((n / 10 : Nat) : Int) ≤ (bif neg then 9223372036854775808 else 9223372036854775807) := by cases neg <;> simp only [cond_true, cond_false] at * <;> omega
      have := ih (n / 10) (by omega) hlt
      rw [Lib.decDigits, dif_neg h, List.map_append]
      unfold foldV at this ⊢
      rw [List.foldl_append, this]
      have e : ((UInt8.ofNat (48 + n % 10)).toNat : Int) = 48 + (n % 10 : Nat) := by simp; omega
      simp only [List.map_cons, List.map_nil, List.foldl_cons, List.foldl_nil, e]
      rw [dval (by omega) (by omega)]
      cases neg
      · simp only [cond_false] at *; rw [w64_id (x := ((n / 10 : Nat) : Int) * 10) (by omega) (by omega), w64_id (by omega) (by omega)]; omega
      · simp only [cond_true] at *; rw [w64_id (x := -((n / 10 : Nat) : Int) * 10) (by omega) (by omega), w64_id (by omega) (by omega)]; omega
theorem number_tot (s : ByteArray) (hs : s.size ≤ 1000000) : ∀ (d i : Nat) (x : Int), i + d = s.size → in64 x → ∃ r : Int × Bool, V.pleachref06_number.l1111010 s x (i : Int) = some r ∧ in64 r.1
  | 0, i, x, h, hx => ⟨(x, true), by
      apply V.pleachref06_number.l1111010.of; unfold F.pleachref06_number.l1111010.B
      rw [if_out (by omega)], hx⟩
  | d + 1, i, x, h, hx => by
    obtain ⟨r1, e1, g1⟩ := number_tot s hs d (i + 1) x (by omega) hx
    obtain ⟨r2, e2, g2⟩ := number_tot s hs d (i + 1) (w64 ((w64 (x * 10)) - (w64 ((w64 (byteAt s (i : Int))) - 48)))) (by omega) (w64_in _)
    obtain ⟨r3, e3, g3⟩ := number_tot s hs d (i + 1) (w64 ((w64 (x * 10)) + (w64 ((w64 (byteAt s (i : Int))) - 48)))) (by omega) (w64_in _)
    have z : in64 0 := by unfold in64; omega
    have B := fun {r} => V.pleachref06_number.l1111010.of s x (i : Int) (r := r)
    unfold F.pleachref06_number.l1111010.B at B
    rw [if_in (by omega), w64_up (n := s.size) (by omega) (by omega), e1, e2, e3] at B
    simp only [guard_in (show i < s.size by omega)] at B
    by_cases c1 : ((i : Int) == 0) = true
    · by_cases c2 : (byteAt s 0 == 45) = true
      · exact ⟨r1, B (by rw [c1, c2]; rfl), g1⟩
      · simp only [Bool.not_eq_true] at c2
        by_cases c3 : byteAt s (i : Int) < 48
        · exact ⟨(0, false), B (by rw [c1, c2, if_yes c3]; rfl), z⟩
        · by_cases c4 : byteAt s (i : Int) > 57
          · exact ⟨(0, false), B (by rw [c1, c2, if_no c3, if_yes c4]; rfl), z⟩
          · exact ⟨r3, B (by rw [c1, c2, if_no c3, if_no c4]; rfl), g3⟩
    · simp only [Bool.not_eq_true] at c1
      by_cases c3 : byteAt s (i : Int) < 48
      · exact ⟨(0, false), B (by rw [c1, if_yes c3]; rfl), z⟩
      · by_cases c4 : byteAt s (i : Int) > 57
        · exact ⟨(0, false), B (by rw [c1, if_no c3, if_yes c4]; rfl), z⟩
        · by_cases c2 : (byteAt s 0 == 45) = true
          · exact ⟨r2, B (by rw [c1, c2, if_no c3, if_no c4]; rfl), g2⟩
          · simp only [Bool.not_eq_true] at c2
            exact ⟨r3, B (by rw [c1, c2, if_no c3, if_no c4]; rfl), g3⟩
theorem number_dig (s : ByteArray) (hs : s.size ≤ 1000000) : ∀ (d i : Nat) (x : Int), i + d = s.size → (∀ j, i ≤ j → j < s.size → 48 ≤ byteAt s (j : Int) ∧ byteAt s (j : Int) ≤ 57) → (i ≠ 0 ∨ (byteAt s 0 == 45) = false) →
    V.pleachref06_number.l1111010 s x (i : Int) = some (foldV (byteAt s 0 == 45) x (bl s d i), true)
  | 0, i, x, h, hd, hi => by
    apply V.pleachref06_number.l1111010.of; unfold F.pleachref06_number.l1111010.B
    rw [if_out (by omega)]; rfl
  | d + 1, i, x, h, hd, hi => by
    obtain ⟨b0, b1⟩ := hd i (Nat.le_refl _) (by omega)
    have IH := fun x => number_dig s hs d (i + 1) x (by omega) (fun j h1 h2 => hd j (by omega) h2) (.inl (by omega))
    apply V.pleachref06_number.l1111010.of; unfold F.pleachref06_number.l1111010.B
    rw [if_in (by omega), w64_up (n := s.size) (by omega) (by omega), IH, IH, IH]
    simp only [guard_in (show i < s.size by omega)]
    rw [if_no (show ¬ byteAt s (i : Int) < 48 by omega), if_no (show ¬ byteAt s (i : Int) > 57 by omega)]
    have e : foldV (byteAt s 0 == 45) x (bl s (d + 1) i) = foldV (byteAt s 0 == 45) (bif byteAt s 0 == 45 then w64 ((w64 (x * 10)) - (w64 ((w64 (byteAt s (i : Int))) - 48))) else w64 ((w64 (x * 10)) + (w64 ((w64 (byteAt s (i : Int))) - 48)))) (bl s d (i + 1)) := rfl
    rw [e]
    cases hc : (byteAt s 0 == 45) with
    | false => cases ((i : Int) == 0) <;> rfl
    | true =>
      rcases hi with hi | hi
      · rw [show ((i : Int) == 0) = false from beq_eq_false_iff_ne.2 (by omega)]; rfl
      · rw [hc] at hi; cases hi
end Go.Proofs.YthnhkaaodghpgaaDoor.AE
end
section
set_option linter.unusedVariables false
set_option linter.unusedSimpArgs false
namespace Go.Proofs.YthnhkaaodghpgaaDoor.AE
open Go

theorem ints_dB (n : Nat) : intsOf (dB n) = (Lib.decDigits n).map fun b => (b.toNat : Int) := rfl
theorem byte_list (l : List UInt8) (i : Nat) : byteAt ⟨l.toArray⟩ (i : Int) = ((l.getD i 0).toNat : Int) := rfl
theorem dB_digit {n i : Nat} (h : i < (dB n).size) : 48 ≤ byteAt (dB n) (i : Int) ∧ byteAt (dB n) (i : Int) ≤ 57 := by
  have hl : i < (Lib.decDigits n).length := h
  have := decD_digit n _ (List.getElem_mem hl)
  unfold dB
  rw [byte_list, show (Lib.decDigits n).getD i 0 = (Lib.decDigits n)[i] by simp [List.getD, hl]]
  omega
theorem dB_pos (n : Nat) : 0 < (dB n).size := List.length_pos_iff.2 (decD_ne n)
theorem number_itoa {n : Int} (h : in64 n) : V.pleachref06_number (itoaS n) = some (n, true) := by
  have hz := itoaS_size h.1 h.2
  apply V.pleachref06_number.of; unfold F.pleachref06_number.B
  by_cases hn : n < 0
  · have hs : (itoaS n).size = 1 + (dB n.natAbs).size := by rw [itoaS_neg hn, ByteArray.size_append]; rfl
    have h19 := dB_size 18 n.natAbs (by have := h.1; omega)
    rw [show (((itoaS n).size : Int) == 0) = false from beq_eq_false_iff_ne.2 (by omega), cond_false, if_no (by omega), guard_dec (by omega)]
    have e0 : itoaS n = ⟨(45 :: Lib.decDigits n.natAbs).toArray⟩ := by unfold itoaS Lib.itoa; rw [if_pos hn]
    have b0 : byteAt (itoaS n) 0 = 45 := by rw [e0]; rfl
    have step : V.pleachref06_number.l1111010 (itoaS n) 0 ((0 : Nat) : Int) = V.pleachref06_number.l1111010 (itoaS n) 0 ((1 : Nat) : Int) := by
      have := number_dig (itoaS n) (by omega) (dB n.natAbs).size 1 0 (by omega) (fun j h1 h2 => by
        obtain ⟨k, rfl⟩ : ∃ k, j = k + 1 := ⟨j - 1, by omega⟩
        have := dB_digit (n := n.natAbs) (i := k) (by omega)
        rw [e0, byte_list]
        unfold dB at this
        rw [byte_list] at this
        exact this) (.inl (by omega))
      rw [this]
      apply V.pleachref06_number.l1111010.of; unfold F.pleachref06_number.l1111010.B
      rw [if_in (by omega), b0, show (((0 : Nat) : Int) == 0) = true from rfl, cond_true, show ((45 : Int) == 45) = true from rfl, cond_true, w64_up (n := 5) (by omega) (by omega)]
      rw [b0] at this
      exact this
    have := number_dig (itoaS n) (by omega) (dB n.natAbs).size 1 0 (by omega) (fun j h1 h2 => by
        obtain ⟨k, rfl⟩ : ∃ k, j = k + 1 := ⟨j - 1, by omega⟩
        have := dB_digit (n := n.natAbs) (i := k) (by omega)
        rw [e0, byte_list]
        unfold dB at this
        rw [byte_list] at this
        exact this) (.inl (by omega))
    refine step.trans (this.trans ?_)
    rw [bl_ints _ _ _ (by omega), b0, show ((45 : Int) == 45) = true from rfl]
    rw [show (intsOf (itoaS n)).drop 1 = (Lib.decDigits n.natAbs).map fun b => (b.toNat : Int) by rw [e0]; rfl, fold_dec true _ (by simp only [cond_true]; have := h.1; omega)]
    simp only [cond_true]
    congr 2
    omega
  · obtain ⟨m, rfl⟩ := Int.eq_ofNat_of_zero_le (show 0 ≤ n by omega)
    have hs : (itoaS (m : Int)).size = (dB m).size := by rw [itoaS_pos]
    have h19 := dB_size 18 m (by have := h.2; omega)
    have hp := dB_pos m
    rw [show (((itoaS (m : Int)).size : Int) == 0) = false from beq_eq_false_iff_ne.2 (by omega), cond_false, if_no (by omega), guard_dec (by omega)]
    rw [itoaS_pos]
    have d0 := dB_digit (n := m) (i := 0) hp
    have hc : (byteAt (dB m) 0 == 45) = false := beq_eq_false_iff_ne.2 (by have : byteAt (dB m) ((0 : Nat) : Int) = byteAt (dB m) 0 := rfl; omega)
    have := number_dig (dB m) (by omega) (dB m).size 0 0 (by omega) (fun j h1 h2 => dB_digit h2) (.inr hc)
    refine this.trans ?_
    rw [bl_ints _ _ _ (by omega), List.drop_zero, ints_dB, hc, fold_dec false _ (by simp only [cond_false]; exact h.2)]
    rfl
def andU (x : Lib.NumEnd Nat) (f : Nat → Lib.NumEnd Nat) : Lib.NumEnd Nat := match x with
  | .ok u => f u
  | y => y
theorem parseU_snoc (c : UInt8) : ∀ (l : List UInt8) (acc : Nat), Lib.parseUint10 acc (l ++ [c]) = andU (Lib.parseUint10 acc l) (fun u => Lib.parseUint10 u [c])
  | [], acc => rfl
  | x :: l, acc => by
    simp only [List.cons_append, Lib.parseUint10]
    by_cases h1 : 48 ≤ x.toNat ∧ x.toNat ≤ 57
    · rw [if_pos h1, if_pos h1]
      by_cases h2 : 1844674407370955162 ≤ acc
      · rw [if_pos h2, if_pos h2]; rfl
      · rw [if_neg h2, if_neg h2]
        by_cases h3 : 18446744073709551616 ≤ acc * 10 + (x.toNat - 48)
        · rw [if_pos h3, if_pos h3]; rfl
        · rw [if_neg h3, if_neg h3]
          exact parseU_snoc c l _
    · rw [if_neg h1, if_neg h1]; rfl
theorem parseU_dec : ∀ n : Nat, n < 18446744073709551616 → Lib.parseUint10 0 (Lib.decDigits n) = .ok n := by
  intro n
  induction n using Nat.strongRecOn with
  | _ n ih =>
    intro hn
    by_cases h : n < 10
    · have e : (UInt8.ofNat (48 + n)).toNat = 48 + n := by simp; omega
      rw [Lib.decDigits_one h]
      simp only [Lib.parseUint10, e]
      rw [if_pos (by omega), if_neg (by omega), if_neg (by omega)]
      congr 1; omega
    · have e : (UInt8.ofNat (48 + n % 10)).toNat = 48 + n % 10 := by simp; omega
      rw [Lib.decDigits, dif_neg h, parseU_snoc, ih (n / 10) (by omega) (by omega)]
      simp only [andU, Lib.parseUint10, e]
      rw [if_pos (by omega), if_neg (by omega), if_neg (by omega)]
      congr 1; omega
theorem mag_dec {n : Nat} (h : n < 18446744073709551616) : Lib.parseMag (Lib.decDigits n) = .ok n := by
  unfold Lib.parseMag; rw [if_neg (decD_ne n), parseU_dec n h]
theorem atoi_itoa {n : Int} (h : in64 n) : atoiV (itoaS n) = (n, true) := by
  have key : Lib.atoiAll (Lib.itoa n) = .ok n := by
    unfold Lib.itoa
    by_cases hn : n < 0
    · rw [if_pos hn]
      unfold Lib.atoiAll
      have := h.1
      simp only [show (45 : UInt8).toNat = 45 from rfl]
      rw [if_pos (by simp), mag_dec (by omega)]
      simp
      rw [if_neg (by omega)]
      congr 1; omega
    · rw [if_neg hn]
      have h2 := h.2
      cases hd : Lib.decDigits n.toNat with
      | nil => exact absurd hd (decD_ne _)
      | cons c r =>
        have hc := decD_digit n.toNat c (by rw [hd]; exact List.mem_cons_self)
        unfold Lib.atoiAll
        simp only
        rw [if_neg (by omega), ← hd, mag_dec (by omega)]
        simp only
        rw [if_neg (by omega), if_neg (by omega), if_neg (by omega)]
        congr 1; omega
  unfold atoiV
  rw [show (itoaS n).data.toList = Lib.itoa n from rfl, key]
theorem atoiV_in (s : ByteArray) : in64 (atoiV s).1 := by
  unfold atoiV
  cases h : Lib.atoiAll s.data.toList with
  | ok v =>
    simp only
    unfold Lib.atoiAll at h
    cases hl : s.data.toList with
    | nil => rw [hl] at h; cases h
    | cons c r =>
      rw [hl] at h
      simp only at h
      cases hm : Lib.parseMag (if c.toNat = 43 ∨ c.toNat = 45 then r else c :: r) with
      | ok u =>
        rw [hm] at h
        simp only at h
        split at h
        · cases h
        · split at h
          · cases h
          · injection h with h
            subst h
            unfold in64
            split <;> omega
      | _ => rw [hm] at h; cases h
  | range =>
    simp only
    unfold Lib.atoiSat in64
    split <;> omega
  | _ => simp only; unfold in64; omega
theorem atoiV_nil : (atoiV ⟨#[]⟩).2 = false := rfl
theorem Atoi_ok {s : ByteArray} (hs : s.size ≤ 1000000) : V.strconv_Atoi s = some (atoiV s) := by
  apply V.strconv_Atoi.of
  show atoiB s = _
  unfold atoiB
  exact guard_dec (by omega)
noncomputable def numR (s : ByteArray) : Int × Bool := (V.pleachref06_number s).getD (0, false)
theorem number_ok {s : ByteArray} (hs : s.size ≤ 1000000) : V.pleachref06_number s = some (numR s) ∧ in64 (numR s).1 := by
  have z : in64 0 := by unfold in64; omega
  obtain ⟨r, h1, h2⟩ := number_tot s hs s.size 0 0 (by omega) z
  have : ∃ r, V.pleachref06_number s = some r ∧ in64 r.1 := by
    have B := fun {r} => V.pleachref06_number.of s (r := r)
    unfold F.pleachref06_number.B at B
    by_cases e0 : s.size = 0
    · exact ⟨(0, false), B (by rw [e0]; rfl), z⟩
    · by_cases e1 : (s.size : Int) > 20
      · exact ⟨(0, false), B (by rw [show ((s.size : Int) == 0) = false from beq_eq_false_iff_ne.2 (by omega), if_yes e1]; rfl), z⟩
      · exact ⟨r, B (by rw [show ((s.size : Int) == 0) = false from beq_eq_false_iff_ne.2 (by omega), cond_false, if_no e1, guard_dec (by omega)]; exact h1), h2⟩
  obtain ⟨r, e1, e2⟩ := this
  unfold numR
  rw [e1]
  exact ⟨rfl, e2⟩
theorem numR_itoa {n : Int} (h : in64 n) : numR (itoaS n) = (n, true) := by unfold numR; rw [number_itoa h]; rfl
theorem numR_nil : (numR ⟨#[]⟩).2 = false := by
  have : V.pleachref06_number (⟨#[]⟩ : ByteArray) = some (0, false) := by
    apply V.pleachref06_number.of; unfold F.pleachref06_number.B; rfl
  unfold numR; rw [this]; rfl

/-! ### What a word is read as -/
abbrev trueS : ByteArray := ⟨#[116, 114, 117, 101]⟩
abbrev falseS : ByteArray := ⟨#[102, 97, 108, 115, 101]⟩
def readF (f : ByteArray → Int × Bool) (s : ByteArray) : TValue × Bool :=
  if s = trueS then ((1, 1, ⟨#[]⟩), true) else if s = falseS then ((1, 0, ⟨#[]⟩), true)
  else if 0 < s.size ∧ byteAt s 0 = 39 then ((3, 0, s.extract 1 s.size), true)
  else if 0 < s.size ∧ byteAt s 0 = 35 then ((3, 0, (unhexV (s.extract 1 s.size)).1), (unhexV (s.extract 1 s.size)).2)
  else ((2, (f s).1, ⟨#[]⟩), (f s).2)
theorem one_byte (c : UInt8) (t : ByteArray) : byteAt ((⟨#[c]⟩ : ByteArray) ++ t) 0 = (c.toNat : Int) := by
  unfold byteAt; simp
theorem one_tail (c : UInt8) (t : ByteArray) : ((⟨#[c]⟩ : ByteArray) ++ t).extract 1 ((⟨#[c]⟩ : ByteArray) ++ t).size = t := by
  apply bytes_ext
  rw [ByteArray.toList_eq, ByteArray.toList_eq, extract_toList]
  simp
  rw [List.take_of_length_le]
  rw [data_len]; show _ ≤ 1 + _ - 1; omega
theorem in_one {a b : ByteArray} (h : byteAt a 0 ≠ byteAt b 0) : a ≠ b := fun e => h (by rw [e])
theorem readF_show {f : ByteArray → Int × Bool} (hf : ∀ n, in64 n → f (itoaS n) = (n, true)) {v : TValue} (hv : valueB v = true) (hb : in64 v.2.1) : readF f (showB v) = (v, true) := by
  obtain ⟨k, n, t⟩ := v
  unfold showB
  rw [if_pos hv]
  unfold valueB at hv
  simp only [Bool.or_eq_true, Bool.and_eq_true, beq_iff_eq, decide_eq_true_eq] at hv
  simp only at hb ⊢
  rcases hv with (⟨⟨rfl, hn⟩, ht⟩ | ⟨rfl, ht⟩) | ⟨⟨rfl, rfl⟩, ht⟩
  · obtain rfl := size_zero ht
    rw [if_pos rfl]
    rcases hn with rfl | rfl
    · rw [if_neg (by decide)]
      unfold readF
      rw [if_neg (by decide), if_pos rfl]
    · rw [if_pos rfl]
      unfold readF
      rw [if_pos rfl]
  · obtain rfl := size_zero ht
    rw [if_neg (by decide), if_pos rfl]
    have hd : byteAt (itoaS n) 0 = 45 ∨ (48 ≤ byteAt (itoaS n) 0 ∧ byteAt (itoaS n) 0 ≤ 57) := by
      by_cases hn : n < 0
      · left; rw [itoaS_neg hn, one_byte]; rfl
      · right
        obtain ⟨m, rfl⟩ := Int.eq_ofNat_of_zero_le (show 0 ≤ n by omega)
        rw [itoaS_pos]
        exact dB_digit (i := 0) (dB_pos m)
    unfold readF
    rw [if_neg (in_one (by rw [show byteAt trueS 0 = 116 from rfl]; omega)), if_neg (in_one (by rw [show byteAt falseS 0 = 102 from rfl]; omega)), if_neg (fun h => by omega), if_neg (fun h => by omega), hf n hb]
  · rw [if_neg (by decide), if_neg (by decide)]
    unfold readF
    by_cases hp : plainB t = true
    · rw [if_pos hp]
      have b0 := one_byte 39 t
      rw [if_neg (in_one (by rw [b0]; decide)), if_neg (in_one (by rw [b0]; decide)), if_pos ⟨by rw [ByteArray.size_append]; show 0 < 1 + _; omega, by rw [b0]; rfl⟩, one_tail]
    · rw [if_neg hp]
      have b0 := one_byte 35 (hexB t)
      rw [if_neg (in_one (by rw [b0]; decide)), if_neg (in_one (by rw [b0]; decide)), if_neg (fun h => by rw [b0] at h; exact absurd h.2 (by decide)), if_pos ⟨by rw [ByteArray.size_append]; show 0 < 1 + _; omega, by rw [b0]; rfl⟩, one_tail, unhex_hex]
theorem readF_nil {f : ByteArray → Int × Bool} (hf : (f ⟨#[]⟩).2 = false) : (readF f ⟨#[]⟩).2 = false := by
  unfold readF
  rw [if_neg (by decide), if_neg (by decide), if_neg (fun h => by exact absurd h.1 (by decide)), if_neg (fun h => by exact absurd h.1 (by decide))]
  exact hf
theorem readF_in {f : ByteArray → Int × Bool} (hf : ∀ s, s.size ≤ 1000000 → in64 (f s).1) {s : ByteArray} (hs : s.size ≤ 1000000) : in64 (readF f s).1.2.1 := by
  have z : in64 0 := by unfold in64; omega
  have o : in64 1 := by unfold in64; omega
  unfold readF
  split
  · exact o
  · split
    · exact z
    · split
      · exact z
      · split
        · exact z
        · exact hf s hs
theorem HasPrefix_one (s : ByteArray) (c : UInt8) : V.strings_HasPrefix s ⟨#[c]⟩ = some (decide (0 < s.size ∧ byteAt s 0 = (c.toNat : Int))) := by
  apply V.strings_HasPrefix.of; unfold F.strings_HasPrefix.B
  have : V.stringslite_HasPrefix s ⟨#[c]⟩ = some (decide (0 < s.size ∧ byteAt s 0 = (c.toNat : Int))) := by
    apply V.stringslite_HasPrefix.of; unfold F.stringslite_HasPrefix.B
    rw [show (((⟨#[c]⟩ : ByteArray).size : Nat) : Int) = 1 from rfl]
    by_cases h : 0 < s.size
    · rw [if_yes (by omega), guard_of (by simp; omega)]
      refine congrArg some ?_
      rw [strEq_dec]
      have hx : s.extract 0 (1 : Int).toNat = (⟨#[s.get! 0]⟩ : ByteArray) := by
        apply bytes_ext
        rw [ByteArray.toList_eq, ByteArray.toList_eq, extract_toList]
        cases s with
        | mk a =>
          cases a with
          | mk l =>
            cases l with
            | nil => exact absurd h (by decide)
            | cons x l => simp [ByteArray.get!]
      rw [hx, show byteAt s 0 = ((s.get! 0).toNat : Int) from bt_get h]
      rw [Bool.eq_iff_iff]
      simp only [decide_eq_true_eq]
      constructor
      · intro e
        have : s.get! 0 = c := by
          have := congrArg (fun b : ByteArray => b.data[0]!) e
          simpa using this
        exact ⟨h, by rw [this]⟩
      · rintro ⟨_, e⟩
        have : s.get! 0 = c := UInt8.toNat_inj.1 (by omega)
        rw [this]
    · rw [if_no (by omega)]
      rw [decide_eq_false (fun e => h e.1)]
  rw [this, Option.bind_some]
theorem tail_guard {α : Type} {s : ByteArray} {a : Option α} (h : 0 < s.size) : guardK (decide (1 ≤ (s.size : Int)) && decide ((s.size : Int) ≤ (s.size : Int))) a = a := guard_of (by simp; omega)
theorem read_ok {s : ByteArray} (hs : s.size ≤ 1000000) : V.value_read s = some (readF atoiV s) := by
  apply V.value_read.of; unfold F.value_read.B readF
  have hx := extract_size s 1 s.size
  rw [strEq_dec, strEq_dec]
  by_cases h1 : s = trueS
  · rw [if_pos h1, if_yes h1]
  · rw [if_neg h1, if_no h1]
    by_cases h2 : s = falseS
    · rw [if_pos h2, if_yes h2]
    · rw [if_neg h2, if_no h2, HasPrefix_one, Option.bind_some]
      by_cases h3 : 0 < s.size ∧ byteAt s 0 = 39
      · rw [if_pos h3, show decide (0 < s.size ∧ byteAt s 0 = (((39 : UInt8).toNat : Nat) : Int)) = true from decide_eq_true h3, cond_true, tail_guard h3.1, nat_cast]
      · rw [if_neg h3, show decide (0 < s.size ∧ byteAt s 0 = (((39 : UInt8).toNat : Nat) : Int)) = false from decide_eq_false h3, cond_false, HasPrefix_one, Option.bind_some]
        by_cases h4 : 0 < s.size ∧ byteAt s 0 = 35
        · rw [if_pos h4, show decide (0 < s.size ∧ byteAt s 0 = (((35 : UInt8).toNat : Nat) : Int)) = true from decide_eq_true h4, cond_true, tail_guard h4.1, nat_cast, sha_Unhex_ok _ (by omega), Option.bind_some]
        · rw [if_neg h4, show decide (0 < s.size ∧ byteAt s 0 = (((35 : UInt8).toNat : Nat) : Int)) = false from decide_eq_false h4, cond_false, Atoi_ok hs, Option.bind_some]
noncomputable def parseF (f : ByteArray → Int × Bool) (s : ByteArray) : Option TValue := if (readF f s).2 = true ∧ showB (readF f s).1 = s then some (readF f s).1 else none
theorem parse_iff {f : ByteArray → Int × Bool} (hf : ∀ n, in64 n → f (itoaS n) = (n, true)) (h0 : (f ⟨#[]⟩).2 = false) (hi : ∀ s, s.size ≤ 1000000 → in64 (f s).1) {s : ByteArray} (hs : s.size ≤ 1000000) (v : TValue) :
    parseF f s = some v ↔ valueB v = true ∧ in64 v.2.1 ∧ showB v = s := by
  unfold parseF
  constructor
  · intro h
    split at h
    · rename_i hh
      cases h
      refine ⟨?_, readF_in hi hs, hh.2⟩
      cases hv : valueB (readF f s).1 with
      | true => rfl
      | false =>
        have hz := hh.2
        unfold showB at hz
        rw [hv, if_neg (by decide)] at hz
        rw [← hz, readF_nil h0] at hh
        exact absurd hh.1 (by decide)
    · cases h
  · rintro ⟨h1, h2, rfl⟩
    rw [readF_show hf h1 h2, if_pos ⟨rfl, rfl⟩]
theorem parse_same {s : ByteArray} (hs : s.size ≤ 1000000) : parseF numR s = parseF atoiV s := by
  have A := parse_iff (f := atoiV) (fun n h => atoi_itoa h) atoiV_nil (fun s _ => atoiV_in s) hs
  have B := parse_iff (f := numR) (fun n h => numR_itoa h) numR_nil (fun s h => (number_ok h).2) hs
  cases h : parseF atoiV s with
  | some v => exact (B v).2 ((A v).1 h)
  | none =>
    cases g : parseF numR s with
    | none => rfl
    | some v => rw [(A v).2 ((B v).1 g)] at h; cases h
theorem Parse_ok {s : ByteArray} (hs : s.size ≤ 1000000) : V.value_Parse s = some (match parseF atoiV s with | some v => (v, 0) | none => ((0, 0, (⟨#[]⟩ : ByteArray)), 3)) := by
  apply V.value_Parse.of; unfold F.value_Parse.B
  have hb := readF_in (f := atoiV) (fun s _ => atoiV_in s) hs
  rw [read_ok hs, Option.bind_some]
  unfold parseF
  have E : ∀ v : TValue, (v.1, v.2.1, v.2.2) = v := fun v => rfl
  rw [E, value_Show_ok _ hb, Option.bind_some, strEq_dec]
  cases h : (readF atoiV s).2 with
  | false => simp
  | true =>
    by_cases g : showB (readF atoiV s).1 = s
    · simp [g]
    · simp [g]
theorem refParse_ok {s : ByteArray} (hs : s.size ≤ 1000000) : V.pleachref06_Parse s = some (match parseF numR s with | some v => (v, true) | none => ((0, 0, (⟨#[]⟩ : ByteArray)), false)) := by
  apply V.pleachref06_Parse.of; unfold F.pleachref06_Parse.B
  have hb := readF_in (f := numR) (fun s h => (number_ok h).2) hs
  have hx := extract_size s 1 s.size
  obtain ⟨n1, n2⟩ := number_ok hs
  have z : -9223372036854775808 ≤ (0 : Int) ∧ (0 : Int) ≤ 9223372036854775807 := by omega
  have u1 := refUnhex_ok (s.extract 1 s.size) (by omega)
  have s1 := refShow_ok (3, 0, s.extract 1 s.size) z
  have s2 := refShow_ok (3, 0, (unhexV (s.extract 1 s.size)).1) z
  have s3 := refShow_ok (2, (numR s).1, ⟨#[]⟩) n2
  rw [strEq_dec, strEq_dec]
  unfold parseF
  by_cases h1 : s = trueS
  · subst h1; rfl
  · rw [if_no h1]
    by_cases h2 : s = falseS
    · subst h2
      rw [if_yes rfl, if_no (by decide)]
      rfl
    · rw [if_no h2]
      have fin : ∀ (v : TValue) (b : Bool), readF numR s = (v, b) → (bif !b then (some (((0, 0, (⟨#[]⟩ : ByteArray)) : TValue), false)) else (bif !strEq (showB v) s then some (((0, 0, (⟨#[]⟩ : ByteArray)) : TValue), false) else some (v, true))) =
          some (match (if (readF numR s).2 = true ∧ showB (readF numR s).1 = s then some (readF numR s).1 else none : Option TValue) with | some v => (v, true) | none => ((0, 0, (⟨#[]⟩ : ByteArray)), false)) := by
        intro v b e
        rw [e, strEq_dec]
        cases b with
        | false => simp
        | true => by_cases g : showB v = s <;> simp [g]
      have r0 : readF numR s = if 0 < s.size ∧ byteAt s 0 = 39 then ((3, 0, s.extract 1 s.size), true) else if 0 < s.size ∧ byteAt s 0 = 35 then ((3, 0, (unhexV (s.extract 1 s.size)).1), (unhexV (s.extract 1 s.size)).2) else ((2, (numR s).1, ⟨#[]⟩), (numR s).2) := by
        unfold readF; rw [if_neg h1, if_neg h2]
      have num : ((V.pleachref06_number s).bind fun t3 => (bif (!t3.2) then (some (((0, 0, (⟨#[]⟩ : ByteArray)) : TValue), false)) else ((V.pleachref06_Show (2, t3.1, (⟨#[]⟩ : ByteArray))).bind fun t4 => (bif (!strEq t4 s) then (some (((0, 0, (⟨#[]⟩ : ByteArray)) : TValue), false)) else (some ((2, t3.1, (⟨#[]⟩ : ByteArray)), true)))))) =
          (bif !(numR s).2 then (some (((0, 0, (⟨#[]⟩ : ByteArray)) : TValue), false)) else (bif !strEq (showB (2, (numR s).1, ⟨#[]⟩)) s then some (((0, 0, (⟨#[]⟩ : ByteArray)) : TValue), false) else some ((2, (numR s).1, ⟨#[]⟩), true))) := by
        rw [n1, Option.bind_some, s3, Option.bind_some]
      rw [num]
      by_cases h3 : 0 < s.size
      · rw [if_yes (show (s.size : Int) > 0 by omega), guard_dec (by omega), if_yes (show (s.size : Int) > 0 by omega), guard_dec (by omega), tail_guard h3, tail_guard h3, nat_cast, s1, u1, Option.bind_some, Option.bind_some, s2, Option.bind_some]
        by_cases h4 : byteAt s 0 = 39
        · rw [show (byteAt s 0 == 39) = true from beq_iff_eq.2 h4, cond_true]
          rw [← fin (3, 0, s.extract 1 s.size) true (by rw [r0, if_pos ⟨h3, h4⟩])]
          rfl
        · rw [show (byteAt s 0 == 39) = false from beq_eq_false_iff_ne.2 h4, cond_false]
          by_cases h5 : byteAt s 0 = 35
          · rw [show (byteAt s 0 == 35) = true from beq_iff_eq.2 h5, cond_true]
            rw [← fin (3, 0, (unhexV (s.extract 1 s.size)).1) (unhexV (s.extract 1 s.size)).2 (by rw [r0, if_neg (fun h => h4 h.2), if_pos ⟨h3, h5⟩])]
          · rw [show (byteAt s 0 == 35) = false from beq_eq_false_iff_ne.2 h5, cond_false]
            exact fin (2, (numR s).1, ⟨#[]⟩) (numR s).2 (by rw [r0, if_neg (fun h => h4 h.2), if_neg (fun h => h5 h.2)])
      · rw [if_no (show ¬ (s.size : Int) > 0 by omega), if_no (show ¬ (s.size : Int) > 0 by omega)]
        exact fin (2, (numR s).1, ⟨#[]⟩) (numR s).2 (by rw [r0, if_neg (fun h => h3 h.1), if_neg (fun h => h3 h.1)])
end Go.Proofs.YthnhkaaodghpgaaDoor.AE
end
section
set_option linter.unusedVariables false
set_option linter.unusedSimpArgs false
namespace Go.Proofs.YthnhkaaodghpgaaDoor.AE
open Go
theorem ValueParses_pure (s : ByteArray) : V.pleachlaw06_ValueParses s = some true := by
  apply V.pleachlaw06_ValueParses.of; unfold F.pleachlaw06_ValueParses.B
  rw [awake06_ok]
  by_cases h : (s.size : Int) > 1000
  · rw [if_yes h]; rfl
  · rw [if_no h, Parse_ok (by omega), Option.bind_some, refParse_ok (by omega), Option.bind_some, parse_same (by omega)]
    cases parseF atoiV s with
    | none => simp [strEq_self]
    | some v => simp [strEq_self]
end Go.Proofs.YthnhkaaodghpgaaDoor.AE
end
section
namespace Go.Proofs.YthnhkaaodghpgaaDoor.AE
open Go Go.ChangeShapes Go.WideShapes Go.ChangeAt Go.RowKit Go.Lib Go.Sort
variable {W₀ : World}
theorem weights_each {H : Type} {P : Program} {p : Nat → Bool} {ts : List TypeId} {ds : List (DataW H)} (h : (DataW.weightsEach P ts ds).all p = true) {j : Nat} {t : TypeId} {d : DataW H} (ht : ts[j]? = some t) (hd : ds[j]? = some d) : ∀ n ∈ d.weights P t, p n = true :=
  fun n hn => List.all_eq_true.1 h _ (DataW.weights_mem_each ht hd n hn)
theorem own : ownKnob Tryd.prog.godebug = none := by kernel_rfl
theorem laidOut : laidOutB Tryd.prog = true := by kernel_rfl
theorem mix : Tryd.prog.follows .mixedOrders = true := by kernel_rfl
theorem numGoB : (Tryd.prog.funcs.all fun fn => !(fn.name == "runtime.NumGoroutine")) = true := by kernel_rfl
theorem num (f : FuncId) (fn : Func) (h : Tryd.prog.funcs[f]? = some fn) : (fn.name == "runtime.NumGoroutine") = false := by
  have := Array.all_eq_true_iff_forall_mem.1 numGoB fn (Array.mem_of_getElem? h)
  simpa using this
def layAtoi_ren : Go.Shelf.Ren := ⟨fun i => match i with | 129 => 95 | 171 => 31 | 172 => 72 | 205 => 101 | 243 => 55 | 244 => 82 | 245 => 83 | 246 => 75 | 247 => 89 | 279 => 90 | 280 => 91 | 281 => 92 | 282 => 93 | 283 => 84 | 284 => 85 | 285 => 86 | 286 => 87 | 287 => 99 | 316 => 100 | 317 => 94 | 318 => 96 | 319 => 97 | 320 => 98 | 321 => 104 | 322 => 105 | 337 => 102 | 338 => 103 | _ => 0, fun i => match i with | 0 => 0 | 2 => 2 | 3 => 3 | 4 => 4 | 5 => 5 | 9 => 9 | 20 => 20 | 21 => 21 | 37 => 51 | 46 => 76 | 51 => 109 | 53 => 55 | 75 => 87 | 76 => 88 | 80 => 124 | 85 => 102 | 127 => 118 | 143 => 119 | 145 => 121 | 167 => 101 | 168 => 104 | 171 => 96 | 173 => 98 | 175 => 112 | 210 => 115 | 212 => 108 | 213 => 110 | 232 => 122 | 233 => 123 | _ => 0, fun i => match i with | 15 => 2 | 16 => 3 | 17 => 1 | 18 => 4 | 19 => 5 | _ => 0⟩
set_option maxRecDepth 100000 in
theorem layAtoi : Go.Proofs.LaysC.n172 Tryd.prog layAtoi_ren where
  mixed := mix
  f129 := Tryd.func95.trans (congrArg some (by kernel_rfl))
  f171 := Tryd.func31.trans (congrArg some (by kernel_rfl))
  f172 := Tryd.func72.trans (congrArg some (by kernel_rfl))
  f205 := Tryd.func101.trans (congrArg some (by kernel_rfl))
  f243 := Tryd.func55.trans (congrArg some (by kernel_rfl))
  f244 := Tryd.func82.trans (congrArg some (by kernel_rfl))
  f245 := Tryd.func83.trans (congrArg some (by kernel_rfl))
  f246 := Tryd.func75.trans (congrArg some (by kernel_rfl))
  f247 := Tryd.func89.trans (congrArg some (by kernel_rfl))
  f279 := Tryd.func90.trans (congrArg some (by kernel_rfl))
  f280 := Tryd.func91.trans (congrArg some (by kernel_rfl))
  f281 := Tryd.func92.trans (congrArg some (by kernel_rfl))
  f282 := Tryd.func93.trans (congrArg some (by kernel_rfl))
  f283 := Tryd.func84.trans (congrArg some (by kernel_rfl))
  f284 := Tryd.func85.trans (congrArg some (by kernel_rfl))
  f285 := Tryd.func86.trans (congrArg some (by kernel_rfl))
  f286 := Tryd.func87.trans (congrArg some (by kernel_rfl))
  f287 := Tryd.func99.trans (congrArg some (by kernel_rfl))
  f316 := Tryd.func100.trans (congrArg some (by kernel_rfl))
  f317 := Tryd.func94.trans (congrArg some (by kernel_rfl))
  f318 := Tryd.func96.trans (congrArg some (by kernel_rfl))
  f319 := Tryd.func97.trans (congrArg some (by kernel_rfl))
  f320 := Tryd.func98.trans (congrArg some (by kernel_rfl))
  f321 := Tryd.func104.trans (congrArg some (by kernel_rfl))
  f322 := Tryd.func105.trans (congrArg some (by kernel_rfl))
  f337 := Tryd.func102.trans (congrArg some (by kernel_rfl))
  f338 := Tryd.func103.trans (congrArg some (by kernel_rfl))
  t0 := by kernel_rfl
  a0 := by intro w; kernel_rfl
  z0 := by intro w; kernel_rfl
  v0 := by intro w; kernel_rfl
  t2 := by kernel_rfl
  a2 := by intro w; kernel_rfl
  z2 := by intro w; kernel_rfl
  v2 := by intro w; kernel_rfl
  t3 := by kernel_rfl
  a3 := by intro w; kernel_rfl
  z3 := by intro w; kernel_rfl
  v3 := by intro w; kernel_rfl
  t4 := by kernel_rfl
  a4 := by intro w; kernel_rfl
  z4 := by intro w; kernel_rfl
  v4 := by intro w; kernel_rfl
  t5 := by kernel_rfl
  a5 := by intro w; kernel_rfl
  z5 := by intro w; kernel_rfl
  v5 := by intro w; kernel_rfl
  t9 := by kernel_rfl
  a9 := by intro w; kernel_rfl
  z9 := by intro w; kernel_rfl
  v9 := by intro w; kernel_rfl
  t20 := by kernel_rfl
  a20 := by intro w; kernel_rfl
  z20 := by intro w; kernel_rfl
  v20 := by intro w; kernel_rfl
  t21 := by kernel_rfl
  a21 := by intro w; kernel_rfl
  z21 := by intro w; kernel_rfl
  v21 := by intro w; kernel_rfl
  t37 := by kernel_rfl
  a37 := by intro w; kernel_rfl
  z37 := by intro w; kernel_rfl
  v37 := by intro w; kernel_rfl
  t46 := by kernel_rfl
  a46 := by intro w; kernel_rfl
  z46 := by intro w; kernel_rfl
  v46 := by intro w; kernel_rfl
  t51 := by kernel_rfl
  a51 := by intro w; kernel_rfl
  z51 := by intro w; kernel_rfl
  v51 := by intro w; kernel_rfl
  t53 := by kernel_rfl
  a53 := by intro w; kernel_rfl
  z53 := by intro w; kernel_rfl
  v53 := by intro w; kernel_rfl
  t75 := by kernel_rfl
  a75 := by intro w; kernel_rfl
  z75 := by intro w; kernel_rfl
  v75 := by intro w; kernel_rfl
  t76 := by kernel_rfl
  a76 := by intro w; kernel_rfl
  z76 := by intro w; kernel_rfl
  v76 := by intro w; kernel_rfl
  t85 := by kernel_rfl
  a85 := by intro w; kernel_rfl
  z85 := by intro w; kernel_rfl
  v85 := by intro w; kernel_rfl
  t127 := by kernel_rfl
  a127 := by intro w; kernel_rfl
  z127 := by intro w; kernel_rfl
  v127 := by intro w; kernel_rfl
  t143 := by kernel_rfl
  a143 := by intro w; kernel_rfl
  z143 := by intro w; kernel_rfl
  v143 := by intro w; kernel_rfl
  t145 := by kernel_rfl
  a145 := by intro w; kernel_rfl
  z145 := by intro w; kernel_rfl
  v145 := by intro w; kernel_rfl
  t167 := by kernel_rfl
  a167 := by intro w; kernel_rfl
  z167 := by intro w; kernel_rfl
  v167 := by intro w; kernel_rfl
  t168 := by kernel_rfl
  a168 := by intro w; kernel_rfl
  z168 := by intro w; kernel_rfl
  v168 := by intro w; kernel_rfl
  t171 := by kernel_rfl
  a171 := by intro w; kernel_rfl
  z171 := by intro w; kernel_rfl
  v171 := by intro w; kernel_rfl
  t173 := by kernel_rfl
  a173 := by intro w; kernel_rfl
  z173 := by intro w; kernel_rfl
  v173 := by intro w; kernel_rfl
  t175 := by kernel_rfl
  a175 := by intro w; kernel_rfl
  z175 := by intro w; kernel_rfl
  v175 := by intro w; kernel_rfl
  t210 := by kernel_rfl
  a210 := by intro w; kernel_rfl
  z210 := by intro w; kernel_rfl
  v210 := by intro w; kernel_rfl
  t212 := by kernel_rfl
  a212 := by intro w; kernel_rfl
  z212 := by intro w; kernel_rfl
  v212 := by intro w; kernel_rfl
  t213 := by kernel_rfl
  a213 := by intro w; kernel_rfl
  z213 := by intro w; kernel_rfl
  t232 := by kernel_rfl
  a232 := by intro w; kernel_rfl
  z232 := by intro w; kernel_rfl
  v232 := by intro w; kernel_rfl
  t233 := by kernel_rfl
  a233 := by intro w; kernel_rfl
  z233 := by intro w; kernel_rfl
  v233 := by intro w; kernel_rfl
  g15 := by kernel_rfl
  g16 := by kernel_rfl
  g17 := by kernel_rfl
  g18 := by kernel_rfl
  g19 := by kernel_rfl
  t80 := by kernel_rfl
  a80 := by intro w; kernel_rfl
  z80 := by intro w; kernel_rfl
  v80 := by intro w; kernel_rfl
  i0 := by kernel_rfl
  i2 := by kernel_rfl
  i3 := by kernel_rfl
  i4 := by kernel_rfl
  i5 := by kernel_rfl
  i9 := by kernel_rfl
  i20 := by kernel_rfl
  i21 := by kernel_rfl
  i37 := by kernel_rfl
  i46 := by kernel_rfl
  i51 := by kernel_rfl
  i53 := by kernel_rfl
  i75 := by kernel_rfl
  i76 := by kernel_rfl
  i80 := by kernel_rfl
  i85 := by kernel_rfl
  i127 := by kernel_rfl
  i143 := by kernel_rfl
  i145 := by kernel_rfl
  i167 := by kernel_rfl
  i168 := by kernel_rfl
  i171 := by kernel_rfl
  i173 := by kernel_rfl
  i175 := by kernel_rfl
  i210 := by kernel_rfl
  i212 := by kernel_rfl
  i232 := by kernel_rfl
  i233 := by kernel_rfl
  m15 := by kernel_rfl
  m16 := by kernel_rfl
  m17 := by kernel_rfl
  m18 := by kernel_rfl
  m19 := by kernel_rfl
  c0 := by kernel_rfl
  c2 := by kernel_rfl
  c3 := by kernel_rfl
  c4 := by kernel_rfl
  c5 := by kernel_rfl
  c9 := by kernel_rfl
  c20 := by kernel_rfl
  c21 := by kernel_rfl
  c37 := by kernel_rfl
  c46 := by kernel_rfl
  c51 := by kernel_rfl
  c53 := by kernel_rfl
  c75 := by kernel_rfl
  c76 := by kernel_rfl
  c80 := by kernel_rfl
  c85 := by kernel_rfl
  c127 := by kernel_rfl
  c143 := by kernel_rfl
  c145 := by kernel_rfl
  c167 := by kernel_rfl
  c168 := by kernel_rfl
  c171 := by kernel_rfl
  c173 := by kernel_rfl
  c175 := by kernel_rfl
  c210 := by kernel_rfl
  c212 := by kernel_rfl
  c213 := by kernel_rfl
  c232 := by kernel_rfl
  c233 := by kernel_rfl
theorem starErr : "*" ++ "errors.errorString" = "*errors.errorString" := by decide
theorem rowErr (u : TypeId) (h : Tryd.prog.typeName? 3 u = some "*errors.errorString") : u = 119 :=
  typeName_ptr_named (nm := "errors.errorString") (by rw [starErr]; kernel_rfl) (by kernel_rfl) (by decide) u (by rw [starErr]; exact h)
def layCont_ren : Go.Shelf.Ren := ⟨fun i => match i with | 15 => 76 | 17 => 56 | 20 => 88 | _ => 0, fun i => match i with | 0 => 0 | 3 => 3 | 4 => 4 | 9 => 9 | 21 => 21 | 23 => 75 | _ => 0, fun x => x⟩
set_option maxRecDepth 100000 in
theorem layCont : Go.Proofs.LaysGw.n17 Tryd.prog layCont_ren where
  mixed := mix
  f15 := Tryd.func76.trans (congrArg some (by kernel_rfl))
  f17 := Tryd.func56.trans (congrArg some (by kernel_rfl))
  f20 := Tryd.func88.trans (congrArg some (by kernel_rfl))
  t0 := by kernel_rfl
  a0 := by intro w; kernel_rfl
  z0 := by intro w; kernel_rfl
  v0 := by intro w; kernel_rfl
  i0 := by kernel_rfl
  t3 := by kernel_rfl
  a3 := by intro w; kernel_rfl
  z3 := by intro w; kernel_rfl
  v3 := by intro w; kernel_rfl
  i3 := by kernel_rfl
  t4 := by kernel_rfl
  a4 := by intro w; kernel_rfl
  z4 := by intro w; kernel_rfl
  v4 := by intro w; kernel_rfl
  i4 := by kernel_rfl
  t9 := by kernel_rfl
  a9 := by intro w; kernel_rfl
  z9 := by intro w; kernel_rfl
  v9 := by intro w; kernel_rfl
  i9 := by kernel_rfl
  t21 := by kernel_rfl
  a21 := by intro w; kernel_rfl
  z21 := by intro w; kernel_rfl
  v21 := by intro w; kernel_rfl
  i21 := by kernel_rfl
  t23 := by kernel_rfl
  a23 := by intro w; kernel_rfl
  z23 := by intro w; kernel_rfl
  v23 := by intro w; kernel_rfl
  i23 := by kernel_rfl
theorem pred57 (w : World) : PredAt Tryd.prog 57 #[] encR badR w := by
  intro W x hb
  unfold FnGives
  show Calls Tryd.prog 57 #[.int .i32 (x : Int)] W _
  go_enter Tryd.func57, Tryd.ntmps57
  go_wp2
  all_goals
    go_ret
    refine ⟨congrArg (fun b => Ending.returned (Value.bool b)) ?_, 0, rfl⟩
    simp only [badR]
    rw [Bool.eq_iff_iff]
    simp
    try omega
def layItoa_ren : Go.Shelf.Ren := ⟨fun i => match i with | 129 => 95 | 171 => 31 | 243 => 55 | 246 => 75 | 283 => 84 | 284 => 85 | 285 => 86 | 286 => 87 | 317 => 94 | 318 => 96 | 319 => 97 | 320 => 98 | 337 => 102 | 338 => 103 | _ => 0, fun i => match i with | 0 => 0 | 2 => 2 | 3 => 3 | 4 => 4 | 5 => 5 | 9 => 9 | 20 => 20 | 37 => 51 | 46 => 76 | 51 => 109 | 53 => 55 | 171 => 96 | 173 => 98 | 212 => 108 | 213 => 110 | 232 => 122 | 233 => 123 | _ => 0, fun i => match i with | 17 => 1 | 18 => 4 | 19 => 5 | _ => 0⟩
set_option maxRecDepth 100000 in
theorem layItoa : Go.Proofs.LaysM.n171 Tryd.prog layItoa_ren where
  mixed := mix
  f129 := Tryd.func95.trans (congrArg some (by kernel_rfl))
  f171 := Tryd.func31.trans (congrArg some (by kernel_rfl))
  f243 := Tryd.func55.trans (congrArg some (by kernel_rfl))
  f246 := Tryd.func75.trans (congrArg some (by kernel_rfl))
  f283 := Tryd.func84.trans (congrArg some (by kernel_rfl))
  f284 := Tryd.func85.trans (congrArg some (by kernel_rfl))
  f285 := Tryd.func86.trans (congrArg some (by kernel_rfl))
  f286 := Tryd.func87.trans (congrArg some (by kernel_rfl))
  f317 := Tryd.func94.trans (congrArg some (by kernel_rfl))
  f318 := Tryd.func96.trans (congrArg some (by kernel_rfl))
  f319 := Tryd.func97.trans (congrArg some (by kernel_rfl))
  f320 := Tryd.func98.trans (congrArg some (by kernel_rfl))
  f337 := Tryd.func102.trans (congrArg some (by kernel_rfl))
  f338 := Tryd.func103.trans (congrArg some (by kernel_rfl))
  t0 := by kernel_rfl
  a0 := by intro w; kernel_rfl
  z0 := by intro w; kernel_rfl
  v0 := by intro w; kernel_rfl
  t2 := by kernel_rfl
  a2 := by intro w; kernel_rfl
  z2 := by intro w; kernel_rfl
  v2 := by intro w; kernel_rfl
  t3 := by kernel_rfl
  a3 := by intro w; kernel_rfl
  z3 := by intro w; kernel_rfl
  v3 := by intro w; kernel_rfl
  t4 := by kernel_rfl
  a4 := by intro w; kernel_rfl
  z4 := by intro w; kernel_rfl
  v4 := by intro w; kernel_rfl
  t5 := by kernel_rfl
  a5 := by intro w; kernel_rfl
  z5 := by intro w; kernel_rfl
  v5 := by intro w; kernel_rfl
  t9 := by kernel_rfl
  a9 := by intro w; kernel_rfl
  z9 := by intro w; kernel_rfl
  v9 := by intro w; kernel_rfl
  t20 := by kernel_rfl
  a20 := by intro w; kernel_rfl
  z20 := by intro w; kernel_rfl
  v20 := by intro w; kernel_rfl
  t37 := by kernel_rfl
  a37 := by intro w; kernel_rfl
  z37 := by intro w; kernel_rfl
  v37 := by intro w; kernel_rfl
  t46 := by kernel_rfl
  a46 := by intro w; kernel_rfl
  z46 := by intro w; kernel_rfl
  v46 := by intro w; kernel_rfl
  t51 := by kernel_rfl
  a51 := by intro w; kernel_rfl
  z51 := by intro w; kernel_rfl
  v51 := by intro w; kernel_rfl
  t53 := by kernel_rfl
  a53 := by intro w; kernel_rfl
  z53 := by intro w; kernel_rfl
  v53 := by intro w; kernel_rfl
  t171 := by kernel_rfl
  a171 := by intro w; kernel_rfl
  z171 := by intro w; kernel_rfl
  v171 := by intro w; kernel_rfl
  t173 := by kernel_rfl
  a173 := by intro w; kernel_rfl
  z173 := by intro w; kernel_rfl
  v173 := by intro w; kernel_rfl
  t212 := by kernel_rfl
  a212 := by intro w; kernel_rfl
  z212 := by intro w; kernel_rfl
  v212 := by intro w; kernel_rfl
  t213 := by kernel_rfl
  a213 := by intro w; kernel_rfl
  z213 := by intro w; kernel_rfl
  t232 := by kernel_rfl
  a232 := by intro w; kernel_rfl
  z232 := by intro w; kernel_rfl
  v232 := by intro w; kernel_rfl
  t233 := by kernel_rfl
  a233 := by intro w; kernel_rfl
  z233 := by intro w; kernel_rfl
  v233 := by intro w; kernel_rfl
  g17 := by kernel_rfl
  g18 := by kernel_rfl
  g19 := by kernel_rfl
  i0 := by kernel_rfl
  i2 := by kernel_rfl
  i3 := by kernel_rfl
  i4 := by kernel_rfl
  i5 := by kernel_rfl
  i9 := by kernel_rfl
  i20 := by kernel_rfl
  i37 := by kernel_rfl
  i46 := by kernel_rfl
  i51 := by kernel_rfl
  i53 := by kernel_rfl
  i171 := by kernel_rfl
  i173 := by kernel_rfl
  i212 := by kernel_rfl
  i232 := by kernel_rfl
  i233 := by kernel_rfl
  m17 := by kernel_rfl
  m18 := by kernel_rfl
  m19 := by kernel_rfl
theorem extok (htab : Lib.TabIs Tryd.prog W₀ "internal/strconv.uint64pow10" .u64 Lib.pow10Tab) {t1 t2 : TypeId} {p1 p2 : Value} (hsyn : W₀.var? Tryd.prog "strconv.ErrSyntax" = some #[.iface t1 p1]) (hran : W₀.var? Tryd.prog "strconv.ErrRange" = some #[.iface t2 p2]) : ExtOk W₀ Tryd.prog sg := .of (show extAll W₀ Tryd.prog sgT from
  ⟨.nothing rfl rfl,
  ⟨.nothing rfl rfl,
  ⟨.nothing rfl rfl,
  ⟨.nothing rfl rfl,
  ⟨.nothing rfl rfl,
  ⟨.nothing rfl rfl,
  ⟨.nothing rfl rfl,
  ⟨.nothing rfl rfl,
  ⟨.nothing rfl rfl,
  ⟨.nothing rfl rfl,
  ⟨.nothing rfl rfl,
  ⟨.nothing rfl rfl,
  ⟨.nothing rfl rfl,
  ⟨.nothing rfl rfl,
  ⟨.nothing rfl rfl,
  ⟨.nothing rfl rfl,
  ⟨.nothing rfl rfl,
  ⟨.nothing rfl rfl,
  ⟨.nothing rfl rfl,
  ⟨.nothing rfl rfl,
  ⟨.nothing rfl rfl,
  ⟨.nothing rfl rfl,
  ⟨.nothing rfl rfl,
  ⟨.nothing rfl rfl,
  ⟨.nothing rfl rfl,
  ⟨.nothing rfl rfl,
  ⟨.nothing rfl rfl,
  ⟨.nothing rfl rfl,
  ⟨(itoa_ext layItoa rfl htab),
  ⟨.nothing rfl rfl,
  ⟨.nothing rfl rfl,
  ⟨.nothing rfl rfl,
  ⟨.nothing rfl rfl,
  ⟨.nothing rfl rfl,
  ⟨.nothing rfl rfl,
  ⟨.nothing rfl rfl,
  ⟨.nothing rfl rfl,
  ⟨.nothing rfl rfl,
  ⟨.nothing rfl rfl,
  ⟨.nothing rfl rfl,
  ⟨.nothing rfl rfl,
  ⟨.nothing rfl rfl,
  ⟨.nothing rfl rfl,
  ⟨.nothing rfl rfl,
  ⟨.nothing rfl rfl,
  ⟨.nothing rfl rfl,
  ⟨.nothing rfl rfl,
  ⟨.nothing rfl rfl,
  ⟨.nothing rfl rfl,
  ⟨.nothing rfl rfl,
  ⟨.nothing rfl rfl,
  ⟨.nothing rfl rfl,
  ⟨(cont_ext layCont rfl (enters_of Tryd.func57 (by kernel_rfl) rfl) pred57),
  ⟨.nothing rfl rfl,
  ⟨.nothing rfl rfl,
  ⟨.nothing rfl rfl,
  ⟨.nothing rfl rfl,
  ⟨.nothing rfl rfl,
  ⟨.nothing rfl rfl,
  ⟨.nothing rfl rfl,
  ⟨.nothing rfl rfl,
  ⟨.nothing rfl rfl,
  ⟨.nothing rfl rfl,
  ⟨.nothing rfl rfl,
  ⟨.nothing rfl rfl,
  ⟨.nothing rfl rfl,
  ⟨.nothing rfl rfl,
  ⟨(atoi_ext layAtoi rfl hsyn hran),
  ⟨.nothing rfl rfl,
  ⟨.nothing rfl rfl,
  ⟨.ofOp rfl rfl (opCompare_ok Tryd.func77 (by kernel_rfl) (by kernel_rfl) (by kernel_rfl) (by kernel_rfl)),
  ⟨.nothing rfl rfl,
  ⟨.nothing rfl rfl,
  ⟨.nothing rfl rfl,
  ⟨.nothing rfl rfl,
  trivial⟩⟩⟩⟩⟩⟩⟩⟩⟩⟩⟩⟩⟩⟩⟩⟩⟩⟩⟩⟩⟩⟩⟩⟩⟩⟩⟩⟩⟩⟩⟩⟩⟩⟩⟩⟩⟩⟩⟩⟩⟩⟩⟩⟩⟩⟩⟩⟩⟩⟩⟩⟩⟩⟩⟩⟩⟩⟩⟩⟩⟩⟩⟩⟩⟩⟩⟩⟩⟩⟩⟩⟩⟩⟩⟩)
end Go.Proofs.YthnhkaaodghpgaaDoor.AE
end
section
namespace Go.Proofs.YthnhkaaodghpgaaDoor.AE.valueParses
open Go Go.ChangeShapes Go.WideShapes Go.ChangeAt Go.RowKit
open Go.ChangeMaps (open_string shut_string)
set_option linter.unusedVariables false
def Pure : Prop := ∀ (x0 : den .str), Gd .str x0 → ∃ K, F.pleachlaw06_ValueParses K x0 = some true
theorem door_met (os : Os) (args : Array Value) : laidMetH Tryd.prog Rows.valueParsesRow.laid ((World.doorLaid Tryd.prog 400 os).forCall (fun _ _ => 0) ⟨#[], args, []⟩).memory :=
  laidMetH_of_parts3 (fuel := 8) (laidMet_of_run' 8 (by kernel_rfl) (by kernel_rfl)) (by kernel_rfl) (by kernel_rfl)
theorem tab_is : (Rows.laid_internal_strconv_uint64pow10 : DataW Unit) = Lib.tabData .u64 Lib.pow10Tab := by kernel_rfl
theorem tab_of {W : World} (h : laidMetH Tryd.prog Rows.valueParsesRow.laid W) : Lib.TabIs Tryd.prog W "internal/strconv.uint64pow10" .u64 Lib.pow10Tab := by
  rw [MakeChecks.laidMetH_plain _ _ _ (by kernel_rfl)] at h
  obtain ⟨ps, ⟨_, _, _, _, _, _, _, _, _, _, ⟨_, _, _, _, _, _, _, _, _, _, ⟨g, t, cs, f, p, q, hg, ht, hv, hd, _, _⟩, _⟩, _⟩, _, _⟩ := h
  obtain rfl := Option.some.inj ((show Tryd.prog.globalNamed "internal/strconv.uint64pow10" = some 1 by kernel_rfl).symm.trans hg)
  obtain rfl := Option.some.inj ((show (Tryd.prog.globals[1]?).map (·.type) = some 108 by kernel_rfl).symm.trans ht)
  rw [tab_is] at hd
  unfold Lib.TabIs
  rw [hv, ← Lib.cells_of_tab Tryd.underlying108 Tryd.underlying55 (by kernel_rfl) (by kernel_rfl) hd]
theorem syn_of {W : World} (h : laidMetH Tryd.prog Rows.valueParsesRow.laid W) : ∃ t p, W.var? Tryd.prog "strconv.ErrSyntax" = some #[.iface t p] := by
  rw [MakeChecks.laidMetH_plain _ _ _ (by kernel_rfl)] at h
  obtain ⟨a1, s1, hv1, _⟩ := laid_sentinel (show laidMet Tryd.prog (_ :: _) W from h.tail.tail.tail.tail) (show Tryd.prog.globalNamed "strconv.ErrSyntax" = some 2 by kernel_rfl) (show (Tryd.prog.globals[2]?).map (·.type) = some 87 by kernel_rfl) Tryd.underlying87 rowErr Tryd.underlying119 Tryd.underlying121 rfl rfl Tryd.underlying9 (by kernel_rfl) (by kernel_rfl)
  exact ⟨_, _, hv1⟩
theorem ran_of {W : World} (h : laidMetH Tryd.prog Rows.valueParsesRow.laid W) : ∃ t p, W.var? Tryd.prog "strconv.ErrRange" = some #[.iface t p] := by
  rw [MakeChecks.laidMetH_plain _ _ _ (by kernel_rfl)] at h
  obtain ⟨a1, s1, hv1, _⟩ := laid_sentinel (show laidMet Tryd.prog (_ :: _) W from h.tail.tail.tail) (show Tryd.prog.globalNamed "strconv.ErrRange" = some 3 by kernel_rfl) (show (Tryd.prog.globals[3]?).map (·.type) = some 87 by kernel_rfl) Tryd.underlying87 rowErr Tryd.underlying119 Tryd.underlying121 rfl rfl Tryd.underlying9 (by kernel_rfl) (by kernel_rfl)
  exact ⟨_, _, hv1⟩
set_option maxRecDepth 100000 in
theorem lifted (pure : Pure) (os : Os) (started : os.Started) (H : Type) (enc : TypeId × Value → H) :
    ReturnsInHanded {} Tryd.checked os 6 .any (fun w args => (Rows.valueParsesSpec.pre enc Tryd.prog Tryd.f6 Rows.valueParsesRow.domain false w args ∧ laidMetH Tryd.prog Rows.valueParsesRow.laid w) ∧ sizedMet enc Tryd.prog Tryd.f6 (OpenSpec.ofChange Rows.valueParsesSpec) false w args) (Rows.valueParsesSpec.post enc Tryd.prog Tryd.f6 false true false false) := by
  refine returnsInHanded_of_change_and (C := Tryd.checked) (X := (fun w _ => laidMetH Tryd.prog Rows.valueParsesRow.laid w)) (fun _ _ _ hh h => h.of_heap hh) own started (by kernel_rfl) Tryd.func6
    (ChangeSpec.witness_shaped (enc := enc) (C := Tryd.checked) (os := os) (X := (fun w _ => laidMetH Tryd.prog Rows.valueParsesRow.laid w)) false (World.doorLaid Tryd.prog 400 os) #[.string ByteArray.empty] 8 rfl (World.shaped_of_RefB (by kernel_rfl) (by kernel_rfl)) (by kernel_rfl) (by kernel_rfl) (by kernel_rfl) (door_met os _)) ?_
  intro W base args ds gs before hval0 hW hcnd hsz0 hL _
  have hsz : (DataW.weightsEach Tryd.prog (Tryd.f6.params.toList ++ Rows.valueParsesSpec.plain.varTypes Tryd.prog) (ds ++ gs)).all (· ≤ reachBytes) = true := hsz0
  have hval : ∀ (j : Nat) t v, Tryd.f6.params[j]? = some t → args[j]? = some v → Value.okWide Tryd.prog W .any base t v := hval0
  have hW' := hW
  obtain ⟨p, q, hA0, hV, rfl, hfz, hnd⟩ := hW
  have hA : DataW.TrodAll enc Tryd.prog W 0 (fun _ => true) true Tryd.f6.params.toList args.toList ds p := hA0
  rw [Tryd.params6] at hA hval hsz
  obtain ⟨v0, vs0, d0, ds0, p0, q0, hargs, rfl, rfl, h0, r0⟩ := trodAll_cons hA
  obtain ⟨rfl, rfl, rfl⟩ := trodAll_nil r0
  obtain rfl : args = #[v0] := by cases args; simp_all
  obtain ⟨rfl, rfl⟩ := trodVars_none hV
  obtain ⟨x0, rfl, rfl, rfl, y0⟩ := open_string Tryd.underlying9 (hval 0 9 v0 rfl rfl) h0
  have G0 : Gd .str x0 := by
    have z := sized_string hsz (j := 0) (t := 9) rfl rfl
    rw [Array.length_toList] at z
    exact z
  obtain ⟨K, hk⟩ := pure x0 G0
  have ha : AV1sR (OX (NoX (W₀ := W)) [] []) W [] [.sc (.val (.string x0))] (#[.string x0] : Array Value).toList := .cons (.sc (.val _)) ⟨rfl, by simp⟩
  refine (law_calls (good Tryd.prog sg (extok (tab_of hL) (syn_of hL).choose_spec.choose_spec (ran_of hL).choose_spec.choose_spec) mix num K) (f := 6) (t := (true : Bool)) (b := true) hk rfl (fun O w ρ vals σ v h hv => bool_of h hv) ha).mono fun e W' ⟨he, hd⟩ => ?_
  have bel : Below W.heap.size W W' := hd
  subst he
  exact ⟨_, rfl, _, _, _, [], _, [], hW', trodAll_mk1 (shut_bool Tryd.underlying4 _), (trodAll_cons_mk (shut_string Tryd.underlying9 y0) trodAll_mk0), rfl, bel.frame _, fun h => by cases h⟩
theorem over (pure : Pure) : Rows.valueParsesRow.holds Tryd.pinned (OpenSpec.ofChange Rows.valueParsesSpec) :=
  OpenClaim.holds_of_wide 6 Tryd.f6 rfl rfl rfl rfl rfl rfl rfl ⟨rfl, rfl, rfl, rfl, rfl⟩ rfl rfl rfl rfl rfl (by kernel_rfl) Tryd.func6 (by kernel_rfl)
    (of_decide_eq_true (by kernel_rfl)) (by unfold Func.isWrapper; first | (rw [if_pos (by decide +kernel)]; kernel_rfl) | (rw [if_neg (by decide +kernel)]; exact ⟨rfl, rfl⟩))
    (fun os started H enc _ => lifted pure os started H enc)
theorem proved (pure : Pure) : Rows.ValueParsesSaid := over pure
theorem card (pure : Pure) : Rows.ValueParsesCardSaid :=
  Claim7.holds_tied_plain_at .later [] [.data, .data, .data, .sentinel, .sentinel] true (true, "0c07123f308a968201183fd7117c883c7d7789a0b9d131a54359b9fd958c0658") true
    (proved pure) (fun _ h => by cases h) (by kernel_rfl) (fun _ h => by cases h) valueParses_row_tie rfl ⟨rfl, rfl⟩ (by kernel_rfl) rfl
    (fun f fn hf hfn => by
      obtain rfl : f = 6 := Option.some.inj ((show Tryd.prog.funcNamed "pleach/pleachlaw06.ValueParses" = some 6 by kernel_rfl).symm.trans hf) |>.symm
      obtain rfl : fn = Tryd.f6 := (Option.some.inj (Tryd.func6.symm.trans hfn)).symm
      refine ⟨by kernel_rfl, fun j t ht => ?_⟩
      rw [Tryd.params6] at ht
      have hm : t ∈ [9] := by
        have := Array.mem_of_getElem? ht
        simpa using this
      simp only [List.mem_cons, List.mem_nil_iff, or_false] at hm
      obtain rfl := hm
      · exact (show Tryd.prog.wantsStandIn 9 = false by kernel_rfl))
    (by kernel_rfl)
end Go.Proofs.YthnhkaaodghpgaaDoor.AE.valueParses
end
